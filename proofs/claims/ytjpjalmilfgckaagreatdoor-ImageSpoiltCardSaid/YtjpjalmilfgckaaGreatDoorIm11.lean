/- Part 11 of the walks, merged: each text under its own heading. Conditions: none of its own; each lemma states what it asks. -/
import Derived.Test.YtjpjalmilfgckaaGreatDoorIm7
import Derived.Test.YtjpjalmilfgckaaGreatDoorIm8
import Derived.Test.YtjpjalmilfgckaaGreatDoorIm10
import Derived.WalkSpells
import Derived.Lib.LazyBuf
import Derived.Lib.AsciiSet
import Derived.Lib.SlTrimSet
import Derived.Lib.Bytealg
import Derived.Lib.Small
set_option maxRecDepth 100000
set_option linter.unusedVariables false
set_option linter.unusedSimpArgs false
namespace Go.Proofs.YtjpjalmilfgckaaGreatDoor
open Go.RowKit
def toI (n:Nat):Int:=wrap64 (n:Int)
theorem toI_in (n:Nat) : -9223372036854775808<=toI n/\toI n<=9223372036854775807:=by
 unfold toI wrap64
 omega
end Go.Proofs.YtjpjalmilfgckaaGreatDoor
namespace Go.Proofs.YtjpjalmilfgckaaGreatDoor
open Go.RowKit
theorem newW_any (most:Int) (w:World) (h1 : -9223372036854775808<=most) (h2:most<=9223372036854775807) :
  Calls Tryz.prog 54 #[.int .i64 most] w fun e w'=>e=.returned (.pointer (some ⟨w.heap.size,0,none⟩))/\PWr w' w.heap.size w.heap.size none [] (max most 0) false/\Below w.heap.size w w'/\w.heap.size<w'.heap.size:=by
 go_enter Tryz.func54,Tryz.ntmps54
 go_wp2
 go_ret
 exact ⟨rfl,⟨Nat.le_refl _,none,0,Blk.new _ _ _,World.ownsRow_nil _ _ _ _,rfl⟩,(Below.refl _ _).alloc (Nat.le_refl _) _,by simp⟩
def Copied (l:List UInt8) (w:World) (e:Ending) (w':World):Prop:=
 ∃ (A:Option Addr) (c:Nat),e=.returned (.slice A l.length c)/\l.length<=c/\c<=maxLen/\w'.ownsRow w.heap.size 5 1 (.slice A l.length c) l.length (u8s l)/\Below w.heap.size w w'
set_option maxHeartbeats 400000 in
theorem pclone_any (A:Option Addr) (n c:Nat) (l:List UInt8) (w:World) (hr:Reads w w.heap.size 1 A n (u8s l)) (hn:n<=35184372088832) :
  Calls Tryz.prog 104 #[.slice A n c] w (Copied l w):=by
 obtain ⟨i0,hi0,hz0,hz1,hz2⟩:=info_parts u8_info
 have hl:=reads_len hr
 have hs1:0+n<=maxLen:=by simp only [maxLen];omega
 have hs2:(0+n)*1<=70368744177664:=by omega
 rcases A with _ | ad
 ·have h0:n=0:=by
   rcases Nat.eq_zero_or_pos n with h0 | h0
   ·exact h0
   obtain ⟨ad,h,_⟩:=hr.2 h0
   cases h
  have hl0:l=[]:=List.eq_nil_of_length_eq_zero (by omega)
  subst h0
  subst hl0
  have heq:=Lib.run_eql_slice_nil (P:=Tryz.prog) w 35 5 none 0 c 0 0 Tryz.underlying35
  simp only [Option.isNone_none] at heq
  go_enter Tryz.func104,Tryz.ntmps104
  go_wp2
  go_ret
  exact ⟨none,0,rfl,Nat.le_refl _,by simp [maxLen],World.ownsRow_nil _ _ _ _,Below.refl _ _⟩
 have Hl:=Lib.hid hl
 clear hl
 have heq:=Lib.run_eql_slice_nil (P:=Tryz.prog) w 35 5 (some ad) n c 0 0 Tryz.underlying35
 simp only [Option.isNone_some] at heq
 go_enter Tryz.func104,Tryz.ntmps104
 go_wp2_with (at_builtin
              refine wpList_append_any _ rfl (.tmp 5) (.tmp 6) 35 rfl w.heap.size 5 i0 (.int .u8 0) 1 1 Tryz.underlying35 hi0 hz0 hz1 hz2 rfl (by decide) _ 0 0 [] rfl (World.ownsRow_made w #[] 0 (Nat.le_refl _) (by simp [maxLen]) rfl) (some ad) n c (u8s l) rfl (hr.al _) (u8s_one _) hs1 hs2 (by simp) ?_
              intro A2 c2 w2 hown2 hb2 hg2 hc2 hm2
              simp only [Nat.zero_add,List.nil_append] at hown2 hc2)
 go_ret
 unfold Copied
 simp only [Hl.out]
 exact ⟨A2,c2,by simp,hc2,hm2,hown2,((Below.refl _ _).alloc (Nat.le_refl _) _).trans hb2⟩
def Doned (B:List UInt8) (full:Bool) (w:World) (e:Ending) (w':World):Prop:=
 Below w.heap.size w w'/\match full with
  | true=>e=.returned (.tuple #[.slice none 0 0,.int .i64 5])
  | false=>∃ (A:Option Addr) (c:Nat),e=.returned (.tuple #[.slice A B.length c,.int .i64 0])/\B.length<=c/\c<=maxLen/\w'.ownsRow w.heap.size 5 1 (.slice A B.length c) B.length (u8s B)
set_option maxHeartbeats 400000 in
theorem wdone_any (base g:Nat) (r:Option Nat) (B:List UInt8) (most:Int) (full:Bool) (w:World) (hp:PWr w base g r B most full) (hb:B.length<=1000000000) :
  Calls Tryz.prog 58 #[.pointer (some ⟨g,0,none⟩)] w (Doned B full w):=by
 obtain ⟨hbg,A0,c0,hblk,hown,hrr⟩:=hp
 have d0:=hblk.cell 0
 have d1:=hblk.cell 1
 have d3:=hblk.cell 3
 have rb:=own_reads hown
 clear hblk hown hrr
 rcases full with _ | _
 ·go_enter Tryz.func58,Tryz.ntmps58
  go_wp2_with fail
  with_reducible refine (pclone_any A0 B.length c0 B _ rb (by omega)).mono ?_
  rintro e w1 ⟨A1,c1,rfl,g1,g2,o1,hb1⟩
  go_wp2
  go_ret2
  exact ⟨hb1,A1,c1,rfl,g1,g2,o1⟩
 go_enter Tryz.func58,Tryz.ntmps58
 go_wp2
 go_ret2
 exact ⟨Below.refl _ _,rfl⟩
end Go.Proofs.YtjpjalmilfgckaaGreatDoor
namespace Go.Proofs.YtjpjalmilfgckaaGreatDoor
open Go.RowKit
def PRd (w:World) (g:Nat) (xs:List UInt8) (p e:Nat):Prop:=
 p<=xs.length/\∃ (A:Option Addr) (c:Nat),Blk w g 235 #[.slice A (xs.length-p) c,.bool true,.int .i64 (p:Int),.int .i64 (e:Int)]/\Reads w w.heap.size 1 A (xs.length-p) (u8s (xs.drop p))/\(0<xs.length-p->∀ ad,A=some ad->ad.block<g)/\xs.length-p<=c/\c<=maxLen
theorem PRd.lt {w:World} {g:Nat} {xs:List UInt8} {p e:Nat} (h:PRd w g xs p e):g<w.heap.size:=by
 obtain ⟨_,A,c,h1,_⟩:=h
 exact h1.lt
theorem PRd.on {w w':World} {g:Nat} {xs:List UInt8} {p e:Nat} (h:PRd w g xs p e) (hb:Below w.heap.size w w'):PRd w' g xs p e:=by
 obtain ⟨h0,A,c,h1,h2,h3⟩:=h
 exact ⟨h0,A,c,h1.on hb,h2.on hb,h3⟩
theorem perr_any (g:Nat) (xs:List UInt8) (p e:Nat) (w:World) (h:PRd w g xs p e) :
  Calls Tryz.prog 143 #[.pointer (some ⟨g,0,none⟩)] w fun e' w'=>e'=.returned (.int .i64 (e:Int))/\w=w':=by
 obtain ⟨h0,A,c,h1,h2,h3,h4,h5⟩:=h
 have d1:=h1.cell 1
 have d3:=h1.cell 3
 clear h0 h1 h2 h3 h4 h5
 go_enter Tryz.func143,Tryz.ntmps143
 go_wp2
 go_ret
 exact ⟨rfl,rfl⟩
def endE (m e:Nat):Nat:=if e=0/\0<m then 30 else e
theorem pend_any (g:Nat) (xs:List UInt8) (p e:Nat) (w:World) (h:PRd w g xs p e) :
  Calls Tryz.prog 145 #[.pointer (some ⟨g,0,none⟩)] w fun e' w'=>e'=.returned (.int .i64 (endE (xs.length-p) e:Int))/\w=w':=by
 have h':=h
 obtain ⟨h0,A,c,h1,h2,h3,h4,h5⟩:=h
 have d0:=h1.cell 0
 have H:=Lib.hid h'
 clear h0 h1 h2 h3 h4 h5 h'
 generalize hm:xs.length-p=m at *
 clear hm
 by_cases he:e=0
 ·subst he
  by_cases hm0:m=0
  ·have hE:endE m 0=0:=by unfold endE;rw [if_neg (by omega)]
   rw [hE]
   have d:(((m:Nat):Int)==0)=true:=by simp;omega
   clear hE
   go_enter Tryz.func145,Tryz.ntmps145
   go_wp2_with fail
   with_reducible refine (perr_any g xs p 0 _ H.out).mono ?_
   rintro e w' ⟨rfl,rfl⟩
   clear hm0
   go_wp2
   go_ret
   exact ⟨rfl,rfl⟩
  have hE:endE m 0=30:=by unfold endE;rw [if_pos (by omega)]
  rw [hE]
  have d:(((m:Nat):Int)==0)=false:=by simp;omega
  clear hE
  go_enter Tryz.func145,Tryz.ntmps145
  go_wp2_with fail
  with_reducible refine (perr_any g xs p 0 _ H.out).mono ?_
  rintro e w' ⟨rfl,rfl⟩
  clear hm0
  go_wp2
  go_ret
  exact ⟨rfl,rfl⟩
 have hE:endE m e=e:=by unfold endE;rw [if_neg (by omega)]
 rw [hE]
 have hn:((e:Int)==0)=false:=by simp;omega
 have hn2:((e:Int) != 0)=true:=by simp;omega
 clear hE he
 go_enter Tryz.func145,Tryz.ntmps145
 go_wp2_with fail
 with_reducible refine (perr_any g xs p e _ H.out).mono ?_
 rintro e w' ⟨rfl,rfl⟩
 go_wp2
 go_ret
 exact ⟨rfl,rfl⟩
end Go.Proofs.YtjpjalmilfgckaaGreatDoor
namespace Go.Proofs.YtjpjalmilfgckaaGreatDoor
open Go.RowKit
def ReadP (res:Except Nat Nat) (m:Nat) (Good:Value->World->Prop) (w:World) (e:Ending) (w':World):Prop:=
 Below w.heap.size w w'/\((∃ (er:Nat) (z:Value) (k:Int),er≠0/\res=.error er/\e=.returned (.tuple #[z,.int .i64 k,.int .i64 (er:Int)]))\/(∃ (v:Value) (n:Nat),res=.ok n/\n<=m/\Good v w'/\e=.returned (.tuple #[v,.int .i64 (n:Int),.int .i64 0])))
def TakeP (g:Nat) (xs:List UInt8) (p:Nat) (res:Except Nat Nat) (zero:Value) (Good:Value->World->Prop) (w:World) (e:Ending) (w':World):Prop:=
 w.grownBy w' (some g)/\((∃ er,er≠0/\res=.error er/\e=.returned zero/\PRd w' g xs p er)\/(∃ (v:Value) (n:Nat),res=.ok n/\Good v w'/\e=.returned v/\p+n<=xs.length/\PRd w' g xs (p+n) 0))
theorem i64_sum (a b:Nat) (h:a+b<=9223372036854775807):IntKind.i64.wrap ((a:Int)+(b:Int))=((a+b:Nat):Int):=by
 rw [i64_wrap_in _ (by omega) (by omega)]
 omega
theorem grown_set3 (w:World) (g i:Nat) (u:Value):w.grownBy (w.setCell ⟨g,i,none⟩ u) (some g):=
 ⟨rfl,rfl,rfl,by simp [World.setCell],fun k hk hne=>Below.heap_setCell w ⟨g,i,none⟩ u k (by intro e;exact hne (by rw [e]))⟩
theorem below_grown {w w':World} {r:Option Nat} (h:Below w.heap.size w w'):w.grownBy w' r:=⟨h.os,h.tape,h.output,h.size,fun k hk _=>h.block k hk⟩
theorem Reads.other3 {w w':World} {size n g:Nat} {A:Option Addr} {xs:List Value} (h:Reads w w.heap.size size A n xs) (hg:w.grownBy w' (some g)) (hne:0<n->∀ ad,A=some ad->ad.block<g):Reads w' w'.heap.size size A n xs:=by
 refine ⟨h.1,fun hn=>?_⟩
 obtain ⟨ad,e,h1,h2⟩:=h.2 hn
 refine ⟨ad,e,Nat.lt_of_lt_of_le h1 hg.size,fun j u hu=>?_⟩
 exact hg.cell (h2 j u hu) (by have:=hne hn ad e;rw [block_of_add];simp;omega)
set_option maxHeartbeats 2000000 in
theorem takeU_any (g:Nat) (xs:List UInt8) (p:Nat) (res:Except Nat Nat) (Good:Value->World->Prop)  (w:World) (h:PRd w g xs p 0) (hl:xs.length<=9223372036854775807) (hgood:∀ v w1 w2,Good v w1->g<w1.heap.size->w1.grownBy w2 (some g)->Good v w2)
  (hread:∀ (A:Option Addr) (c:Nat),Reads w w.heap.size 1 A (xs.length-p) (u8s (xs.drop p))->xs.length-p<=c->c<=maxLen->Calls Tryz.prog 81 #[.slice A (xs.length-p) c] w (ReadP res (xs.length-p) Good w)) :
  Calls Tryz.prog 188 #[.pointer (some ⟨g,0,none⟩),.func (.func 81) #[] #[]] w (TakeP g xs p res (.int .u64 0) Good w):=by
 have Hread:=Lib.hid hread
 have Hgood:=Lib.hid hgood
 have H:=Lib.hid h
 obtain ⟨h0,A,c,h1,h2,h3,h4,h5⟩:=h
 have H1:=Lib.hid h1
 have H3:=Lib.hid h3
 have hxd:(xs.drop p).length=xs.length-p:=List.length_drop
 have hglt:=h1.lt
 generalize hm:xs.length-p=m at *
 have Hm:=Lib.hid hm
 have d0:=h1.cell 0
 have d2:=h1.cell 2
 have d3:=h1.cell 3
 have f0:=h1.frozen 0
 have f2:=h1.frozen 2
 have f3:=h1.frozen 3
 have hml:m<=xs.length:=by omega
 clear hread h1 h3 hm hgood hxd
 go_enter Tryz.func188,Tryz.ntmps188
 go_wp2_with fail
 with_reducible refine (perr_any g xs p 0 _ H.out).mono ?_
 rintro e w' ⟨rfl,rfl⟩
 go_wp2_with fail
 with_reducible refine (Hread.out A c h2 h4 h5).mono ?_
 rintro e w1 ⟨hb1,hcase⟩
 have hblk1:=H1.out.on hb1
 have hr1:=h2.on hb1
 have k0:=hblk1.cell 0
 have k2:=hblk1.cell 2
 have j0:=hblk1.frozen 0
 have j2:=hblk1.frozen 2
 have j3:=hblk1.frozen 3
 have k3:=hblk1.cell 3
 have Hblk1:=Lib.hid hblk1
 clear hblk1 d0 d2 d3 f0 f2 f3 h2
 rcases hcase with ⟨er,z,k,her,hres,rfl⟩ | ⟨v,n,hres,hnm,hgv,rfl⟩
 ·have hn:((er:Int)==0)=false:=by simp;omega
  have hn2:((er:Int) != 0)=true:=by simp;omega
  have Hres:=Lib.hid hres
  have Her:=Lib.hid her
  clear hres her
  go_wp2
  go_ret
  have hg2:=(below_grown (r:=some g) hb1).trans (grown_set3 w1 g 3 (.int .i64 (er:Int)))
  refine ⟨hg2,.inl ⟨er,Her.out,Hres.out,rfl,h0,A,c,?_,?_,?_,?_,h5⟩⟩
  ·rw [Hm.out]
   exact Hblk1.out.set_ 3 (.int .i64 (er:Int))
  ·rw [Hm.out]
   exact hr1.other3 (grown_set3 w1 g 3 (.int .i64 (er:Int))) H3.out
  ·rw [Hm.out];exact H3.out
  rw [Hm.out];exact h4
 have Hres:=Lib.hid hres
 have Hgv:=Lib.hid hgv
 have hnc:n<=c:=by omega
 have hc63:c<=9223372036854775807:=by unfold maxLen at h5;omega
 have Hsum:=Lib.hid (i64_sum p n (by have:=Hm.out;omega))
 have hcut:=hr1.cut (k:=n) (cap:=c) hnm h4
 rw [Nat.mul_one,u8s_drop,List.drop_drop] at hcut
 obtain ⟨A2,hA2⟩:∃ A2,(if c=n then A else Option.map (fun x=>x.add n) A)=A2:=⟨_,rfl⟩
 rw [hA2] at hcut
 have hpn:p+n<=xs.length:=by have:=Hm.out;omega
 have hpn2:p+n<=9223372036854775807:=by omega
 have hA2b:0<m-n->∀ ad,A2=some ad->ad.block<g:=by
  intro h0' ad had
  rw [<-hA2,if_neg (by omega)] at had
  obtain ⟨ad0,hA,rfl⟩:=Option.map_eq_some_iff.1 had
  rw [block_of_add]
  exact H3.out (by omega) ad0 hA
 have HA2b:=Lib.hid hA2b
 clear hres hgv hA2b
 go_wp2
 go_region
 go_wp2
 go_ret
 have hg1:=below_grown (r:=some g) hb1
 have hg2:=grown_set3 w1 g 0 (.slice A2 (m-n) (c-n))
 have hg3:=grown_set3 (w1.setCell ⟨g,0,none⟩ (.slice A2 (m-n) (c-n))) g 2 (.int .i64 ((p:Int)+(n:Int)))
 have hg4:w1.grownBy ((w1.setCell ⟨g,0,none⟩ (.slice A2 (m-n) (c-n))).setCell ⟨g,2,none⟩ (.int .i64 ((p:Int)+(n:Int)))).drew (some g):=(hg2.trans hg3).trans ⟨rfl,rfl,rfl,Nat.le_refl _,fun _ _ _=>rfl⟩
 have hmn:xs.length-(p+n)=m-n:=by have:=Hm.out;omega
 have hblk2:=((Hblk1.out.set_ 0 (.slice A2 (m-n) (c-n))).set_ 2 (.int .i64 ((p:Int)+(n:Int)))).drew
 refine ⟨hg1.trans hg4,.inr ⟨v,n,Hres.out,Hgood.out _ _ _ Hgv.out Hblk1.out.lt hg4,rfl,hpn,hpn,A2,c-n,?_,?_,?_,?_,by omega⟩⟩
 ·rw [hmn]
  have e:((p+n:Nat):Int)=(p:Int)+(n:Int):=by omega
  rw [e]
  exact hblk2
 ·rw [hmn]
  exact hcut.other3 hg4 HA2b.out
 ·rw [hmn];exact HA2b.out
 rw [hmn];omega
theorem takeU_err (g:Nat) (xs:List UInt8) (p e:Nat) (F:Value) (w:World) (h:PRd w g xs p e) (he:e≠0) :
  Calls Tryz.prog 188 #[.pointer (some ⟨g,0,none⟩),F] w fun e' w'=>e'=.returned (.int .u64 0)/\w=w':=by
 have H:=Lib.hid h
 have hn:((e:Int)==0)=false:=by simp;omega
 have hn2:((e:Int) != 0)=true:=by simp;omega
 clear h he
 go_enter Tryz.func188,Tryz.ntmps188
 go_wp2_with fail
 with_reducible refine (perr_any g xs p e _ H.out).mono ?_
 rintro e w' ⟨rfl,rfl⟩
 go_wp2
 go_ret
 exact ⟨rfl,rfl⟩
set_option maxHeartbeats 2000000 in
theorem takeT_any (g:Nat) (xs:List UInt8) (p:Nat) (res:Except Nat Nat) (Good:Value->World->Prop) (ca:Addr) (w:World) (h:PRd w g xs p 0) (hl:xs.length<=9223372036854775807) (hgood:∀ v w1 w2,Good v w1->g<w1.heap.size->w1.grownBy w2 (some g)->Good v w2)
  (hread:∀ (A:Option Addr) (c:Nat),Reads w w.heap.size 1 A (xs.length-p) (u8s (xs.drop p))->xs.length-p<=c->c<=maxLen->Calls Tryz.prog 190 #[.slice A (xs.length-p) c,.pointer (some ca)] w (ReadP res (xs.length-p) Good w)) :
  Calls Tryz.prog 189 #[.pointer (some ⟨g,0,none⟩),.func (.func 190) #[] #[.pointer (some ca)]] w (TakeP g xs p res (.string ⟨#[]⟩) Good w):=by
 have Hread:=Lib.hid hread
 have Hgood:=Lib.hid hgood
 have H:=Lib.hid h
 obtain ⟨h0,A,c,h1,h2,h3,h4,h5⟩:=h
 have H1:=Lib.hid h1
 have H3:=Lib.hid h3
 have hxd:(xs.drop p).length=xs.length-p:=List.length_drop
 have hglt:=h1.lt
 generalize hm:xs.length-p=m at *
 have Hm:=Lib.hid hm
 have d0:=h1.cell 0
 have d2:=h1.cell 2
 have d3:=h1.cell 3
 have f0:=h1.frozen 0
 have f2:=h1.frozen 2
 have f3:=h1.frozen 3
 have hml:m<=xs.length:=by omega
 clear hread h1 h3 hm hgood hxd
 go_enter Tryz.func189,Tryz.ntmps189
 go_wp2_with fail
 with_reducible refine (perr_any g xs p 0 _ H.out).mono ?_
 rintro e w' ⟨rfl,rfl⟩
 go_wp2_with fail
 with_reducible refine (Hread.out A c h2 h4 h5).mono ?_
 rintro e w1 ⟨hb1,hcase⟩
 have hblk1:=H1.out.on hb1
 have hr1:=h2.on hb1
 have k0:=hblk1.cell 0
 have k2:=hblk1.cell 2
 have j0:=hblk1.frozen 0
 have j2:=hblk1.frozen 2
 have j3:=hblk1.frozen 3
 have k3:=hblk1.cell 3
 have Hblk1:=Lib.hid hblk1
 clear hblk1 d0 d2 d3 f0 f2 f3 h2
 rcases hcase with ⟨er,z,k,her,hres,rfl⟩ | ⟨v,n,hres,hnm,hgv,rfl⟩
 ·have hn:((er:Int)==0)=false:=by simp;omega
  have hn2:((er:Int) != 0)=true:=by simp;omega
  have Hres:=Lib.hid hres
  have Her:=Lib.hid her
  clear hres her
  go_wp2
  go_ret
  have hg2:=(below_grown (r:=some g) hb1).trans (grown_set3 w1 g 3 (.int .i64 (er:Int)))
  refine ⟨hg2,.inl ⟨er,Her.out,Hres.out,rfl,h0,A,c,?_,?_,?_,?_,h5⟩⟩
  ·rw [Hm.out]
   exact Hblk1.out.set_ 3 (.int .i64 (er:Int))
  ·rw [Hm.out]
   exact hr1.other3 (grown_set3 w1 g 3 (.int .i64 (er:Int))) H3.out
  ·rw [Hm.out];exact H3.out
  rw [Hm.out];exact h4
 have Hres:=Lib.hid hres
 have Hgv:=Lib.hid hgv
 have hnc:n<=c:=by omega
 have hc63:c<=9223372036854775807:=by unfold maxLen at h5;omega
 have Hsum:=Lib.hid (i64_sum p n (by have:=Hm.out;omega))
 have hcut:=hr1.cut (k:=n) (cap:=c) hnm h4
 rw [Nat.mul_one,u8s_drop,List.drop_drop] at hcut
 obtain ⟨A2,hA2⟩:∃ A2,(if c=n then A else Option.map (fun x=>x.add n) A)=A2:=⟨_,rfl⟩
 rw [hA2] at hcut
 have hpn:p+n<=xs.length:=by have:=Hm.out;omega
 have hpn2:p+n<=9223372036854775807:=by omega
 have hA2b:0<m-n->∀ ad,A2=some ad->ad.block<g:=by
  intro h0' ad had
  rw [<-hA2,if_neg (by omega)] at had
  obtain ⟨ad0,hA,rfl⟩:=Option.map_eq_some_iff.1 had
  rw [block_of_add]
  exact H3.out (by omega) ad0 hA
 have HA2b:=Lib.hid hA2b
 clear hres hgv hA2b
 go_wp2
 go_region
 go_wp2
 go_ret
 have hg1:=below_grown (r:=some g) hb1
 have hg2:=grown_set3 w1 g 0 (.slice A2 (m-n) (c-n))
 have hg3:=grown_set3 (w1.setCell ⟨g,0,none⟩ (.slice A2 (m-n) (c-n))) g 2 (.int .i64 ((p:Int)+(n:Int)))
 have hg4:w1.grownBy ((w1.setCell ⟨g,0,none⟩ (.slice A2 (m-n) (c-n))).setCell ⟨g,2,none⟩ (.int .i64 ((p:Int)+(n:Int)))).drew (some g):=(hg2.trans hg3).trans ⟨rfl,rfl,rfl,Nat.le_refl _,fun _ _ _=>rfl⟩
 have hmn:xs.length-(p+n)=m-n:=by have:=Hm.out;omega
 have hblk2:=((Hblk1.out.set_ 0 (.slice A2 (m-n) (c-n))).set_ 2 (.int .i64 ((p:Int)+(n:Int)))).drew
 refine ⟨hg1.trans hg4,.inr ⟨v,n,Hres.out,Hgood.out _ _ _ Hgv.out Hblk1.out.lt hg4,rfl,hpn,hpn,A2,c-n,?_,?_,?_,?_,by omega⟩⟩
 ·rw [hmn]
  have e:((p+n:Nat):Int)=(p:Int)+(n:Int):=by omega
  rw [e]
  exact hblk2
 ·rw [hmn]
  exact hcut.other3 hg4 HA2b.out
 ·rw [hmn];exact HA2b.out
 rw [hmn];omega
theorem ptakeT_err (g:Nat) (xs:List UInt8) (p e:Nat) (F:Value) (w:World) (h:PRd w g xs p e) (he:e≠0) :
  Calls Tryz.prog 189 #[.pointer (some ⟨g,0,none⟩),F] w fun e' w'=>e'=.returned (.string ⟨#[]⟩)/\w=w':=by
 have H:=Lib.hid h
 have hn:((e:Int)==0)=false:=by simp;omega
 have hn2:((e:Int) != 0)=true:=by simp;omega
 clear h he
 go_enter Tryz.func189,Tryz.ntmps189
 go_wp2_with fail
 with_reducible refine (perr_any g xs p e _ H.out).mono ?_
 rintro e w' ⟨rfl,rfl⟩
 go_wp2
 go_ret
 exact ⟨rfl,rfl⟩
end Go.Proofs.YtjpjalmilfgckaaGreatDoor
namespace Go.Proofs.YtjpjalmilfgckaaGreatDoor
open Go.RowKit
def Asked (g:Nat) (xs:List UInt8) (v:Value) (p e:Nat) (w:World) (e':Ending) (w':World):Prop:=
 e'=.returned v/\w.grownBy w' (some g)/\PRd w' g xs p e
theorem asked_same {g:Nat} {xs:List UInt8} {v:Value} {p e:Nat} {w:World} (h:PRd w g xs p e):Asked g xs v p e w (.returned v) w:=⟨rfl,⟨rfl,rfl,rfl,Nat.le_refl _,fun _ _ _=>rfl⟩,h⟩
theorem Asked.from_ {g:Nat} {xs:List UInt8} {v:Value} {p e:Nat} {w w1:World} {e':Ending} {w':World} (h:Asked g xs v p e w1 e' w') (hb:Below w.heap.size w w1):Asked g xs v p e w e' w':=
 ⟨h.1,(below_grown hb).trans h.2.1,h.2.2⟩
def varA (xs:List UInt8) (p e:Nat):Nat×Nat×Nat:=
 if e≠0 then (0,p,e) else if (get (xs.drop p)).2.2≠0 then (0,p,(get (xs.drop p)).2.2) else ((get (xs.drop p)).1,p+(get (xs.drop p)).2.1,0)
theorem get_size3 (xs:List UInt8):(get xs).2.1<=xs.length/\(get xs).2.2<11/\(get xs).1<18446744073709551616/\((get xs).2.2≠0->(get xs).1=0):=by
 rcases get_only xs with ⟨n,h,h1,h2,h3⟩ | ⟨e,h,h1,h2⟩
 ·rw [h]
  exact ⟨h2,show 0<11 from by decide,h1,fun h=>absurd rfl h⟩
 rw [h]
 exact ⟨Nat.zero_le _,h2,show 0<18446744073709551616 from by decide,fun _=>rfl⟩
set_option maxHeartbeats 400000 in
theorem pvar_any (g:Nat) (xs:List UInt8) (p e:Nat) (w:World) (h:PRd w g xs p e) (hl:xs.length<=9223372036854775807) :
  Calls Tryz.prog 142 #[.pointer (some ⟨g,0,none⟩)] w (Asked g xs (.int .u64 ((varA xs p e).1:Int)) (varA xs p e).2.1 (varA xs p e).2.2 w):=by
 have H:=Lib.hid h
 clear h
 by_cases he:e=0
 ·subst he
  have hv:varA xs p 0=varA xs p 0:=rfl
  conv at hv=>rhs;unfold varA;rw [if_neg (by simp)]
  obtain ⟨s1,s2,s3,s4⟩:=get_size3 (xs.drop p)
  have hld:(xs.drop p).length=xs.length-p:=List.length_drop
  rw [hld] at s1
  have hread:=fun (A:Option Addr) (c:Nat) (hr:Reads w w.heap.size 1 A (xs.length-p) (u8s (xs.drop p))) (h1:xs.length-p<=c) (h2:c<=maxLen)=>get_any A (xs.length-p) c (xs.drop p) w hr h1 h2
  generalize get (xs.drop p)=r at hv s1 s2 s3 s4 hread
  obtain ⟨rn,rk,re⟩:=r
  simp only [gotten] at hv s1 s2 s3 s4 hread
  have Hv:=Lib.hid hv
  have Hread:=Lib.hid hread
  clear hv hread hld s3
  go_enter Tryz.func142,Tryz.ntmps142
  go_wp2_with fail
  with_reducible refine (takeU_any g xs p (if re≠0 then .error re else .ok rk) (fun v _=>v=.int .u64 (rn:Int)) _ H.out hl (fun v w1 w2 h _ _=>h) ?_).mono ?_
  ·intro A c hr h1 h2
   refine (Hread.out A c hr h1 h2).mono ?_
   rintro e w' ⟨rfl,rfl⟩
   refine ⟨Below.refl _ _,?_⟩
   by_cases hre:re=0
   ·subst hre
    exact .inr ⟨_,rk,rfl,s1,rfl,rfl⟩
   exact .inl ⟨re,_,_,hre,by rw [if_pos hre],rfl⟩
  rintro e w2 ⟨hg,hcase⟩
  rcases hcase with ⟨er,her,hres,rfl,hp⟩ | ⟨v,n,hres,rfl,rfl,hpn,hp⟩
  ·have hre:re≠0/\er=re:=by
    split at hres
    ·rename_i h;injection hres with hres;exact ⟨h,hres.symm⟩
    cases hres
   have hv:=Hv.out
   rw [if_pos hre.1] at hv
   have Hv2:=Lib.hid hv
   obtain rfl:=hre.2
   clear hres hv hre her s4
   go_wp2
   go_ret
   rw [Hv2.out]
   exact ⟨rfl,hg,hp⟩
  have hre:re=0/\n=rk:=by
   split at hres
   ·cases hres
   rename_i h;injection hres with hres;exact ⟨by simpa using h,hres.symm⟩
  have hv:=Hv.out
  rw [if_neg (by simp [hre.1])] at hv
  have Hv2:=Lib.hid hv
  obtain rfl:=hre.2
  clear hres hv hre s4
  go_wp2
  go_ret
  rw [Hv2.out]
  exact ⟨rfl,hg,hp⟩
 have hv:varA xs p e=(0,p,e):=by unfold varA;rw [if_pos he]
 rw [hv]
 have He:=Lib.hid he
 clear hv he
 go_enter Tryz.func142,Tryz.ntmps142
 go_wp2_with fail
 with_reducible refine (takeU_err g xs p e _ _ H.out He.out).mono ?_
 rintro e w' ⟨rfl,rfl⟩
 go_wp2
 go_ret
 exact asked_same H.out
def RawG (base:Nat) (n:Int) (r:List UInt8) (v:Value) (w:World):Prop:=
 ∃ (A:Option Addr) (c:Nat),v=.slice A n.toNat c/\n.toNat<=c/\c<=maxLen/\w.ownsRow base 5 1 (.slice A n.toNat c) n.toNat (u8s (r.take n.toNat))
end Go.Proofs.YtjpjalmilfgckaaGreatDoor
namespace Go.Proofs.YtjpjalmilfgckaaGreatDoor
open Go.RowKit
theorem own_low {w w':World} {base size n g:Nat} {e:TypeId} {v:Value} {xs:List Value} (h:w.ownsRow base e size v n xs) (hlt:g<base) (hg:w.grownBy w' (some g)):w'.ownsRow base e size v n xs:=by
 refine h.kept hg ?_
 rcases h.2 with ⟨rfl,h0⟩ | ⟨g2,cap,cur,rfl,h1,h2,h3⟩
 ·exact .inl rfl
 right
 simp only [Value.ownBlock,ne_eq,Option.some.injEq]
 omega
theorem RawG.keep {base g:Nat} {n:Int} {r:List UInt8} {v:Value} {w1 w2:World} (h:RawG base n r v w1) (hlt:g<base) (hg:w1.grownBy w2 (some g)):RawG base n r v w2:=by
 obtain ⟨A,c,h1,h2,h3,h4⟩:=h
 exact ⟨A,c,h1,h2,h3,own_low h4 hlt hg⟩
end Go.Proofs.YtjpjalmilfgckaaGreatDoor
namespace Go.Proofs.YtjpjalmilfgckaaGreatDoor
open Go.RowKit
def textE (most:Int) (b:List UInt8):Except Nat Nat:=match takeT most b with
 | .error e=>.error e
 | .ok (_,n)=>.ok n
def TextG (most:Int) (b:List UInt8) (v:Value) (_:World):Prop:=∃ s n,takeT most b=.ok (s,n)/\v=.string s
theorem TextG.keep {most:Int} {b:List UInt8} {v:Value} {w w':World} (h:TextG most b v w):TextG most b v w':=h
theorem readT_err {most:Int} {b:List UInt8} {m er:Nat} {w w':World} {z:Value} {k:Int} (h:takeT most b=.error er) (he:er≠0) (hb:Below w.heap.size w w') :
  ReadP (textE most b) m (TextG most b) w (.returned (.tuple #[z,.int .i64 k,.int .i64 (er:Int)])) w':=⟨hb,.inl ⟨er,z,k,he,by unfold textE;rw [h],rfl⟩⟩
theorem readT_ok {most:Int} {b:List UInt8} {m n:Nat} {s:ByteArray} {w w':World} {k:Int} (h:takeT most b=.ok (s,n)) (hn:n<=m) (hk:k=(n:Int)) (hb:Below w.heap.size w w') :
  ReadP (textE most b) m (TextG most b) w (.returned (.tuple #[.string s,.int .i64 k,.int .i64 0])) w':=by
 subst hk
 exact ⟨hb,.inr ⟨_,n,by unfold textE;rw [h],hn,⟨s,n,h,rfl⟩,rfl⟩⟩
set_option maxHeartbeats 1000000 in
theorem text1_any (A:Option Addr) (m c:Nat) (r:List UInt8) (most:Int) (ca:Addr) (w:World) (hr:Reads w w.heap.size 1 A m (u8s r)) (hm:m<=c) (hc:c<=maxLen) (hcell:w.cell? ca=some (.int .i64 most)) (hcb:ca.block<w.heap.size) (hm2:m<=1099511627776) (hmo:most<=9223372036854775807) :
  Calls Tryz.prog 190 #[.slice A m c,.pointer (some ca)] w (ReadP (textE most r) m (TextG most r) w):=by
 have hrl:=reads_len hr
 have Hrl:=Lib.hid hrl
 have hgs:=get_size3 r
 rw [hrl] at hgs
 have htk:takeT most r=takeT most r:=rfl
 conv at htk=>rhs;unfold takeT
 rw [hrl] at htk
 have hget:=get_any A m c r w hr hm hc
 generalize get r=q at hgs htk hget
 obtain ⟨rn,rk,re⟩:=q
 obtain ⟨hk1,hk2,hk3,hk4⟩:=hgs
 simp only [gotten] at hk1 hk2 hk3 hk4 hget htk
 have Hget:=Lib.hid hget
 clear hget hrl
 go_enter Tryz.func190,Tryz.ntmps190
 go_wp2_with fail
 with_reducible refine (Hget.out).mono ?_
 rintro e w' ⟨rfl,rfl⟩
 by_cases hre:re=0
 ·subst hre
  rw [if_neg (by simp)] at htk
  by_cases hlim:most<0\/most<(rn:Int)
  ·rw [if_pos hlim] at htk
   have Htk:=Lib.hid htk
   clear htk hk4
   by_cases hm0:most<0
   ·go_wp2
    go_ret3
    exact readT_err Htk.out (by decide) (Below.refl _ _)
   obtain ⟨mo,rfl⟩:=Int.eq_ofNat_of_zero_le (by omega:0<=most)
   have db:decide ((mo:Int)<(rn:Int))=true:=by simp;omega
   go_wp2
   go_ret3
   exact readT_err Htk.out (by decide) (Below.refl _ _)
  rw [if_neg hlim] at htk
  obtain ⟨mo,rfl⟩:=Int.eq_ofNat_of_zero_le (by omega:0<=most)
  have db:decide ((mo:Int)<(rn:Int))=false:=by simp;omega
  have hmn:rn<=mo:=by omega
  clear hlim hk4
  by_cases hlen:m-rk<rn
  ·rw [if_pos hlen] at htk
   have Htk:=Lib.hid htk
   clear htk
   go_wp2
   go_ret3
   exact readT_err Htk.out (by decide) (Below.refl _ _)
  rw [if_neg hlen] at htk
  have Htk:=Lib.hid htk
  clear htk
  have hrm:rn<=1099511627776:=by omega
  obtain ⟨en,hen⟩:∃ en,rk+rn=en:=⟨_,rfl⟩
  have henI:(rk:Int)+(rn:Int)=(en:Int):=by omega
  have Hen:=Lib.hid hen
  have h1:rk<=en:=by omega
  have h2:en<=m:=by omega
  have h3:en<=c:=by omega
  have hcut:=hr.cut (k:=rk) (cap:=c) hk1 hm
  rw [Nat.mul_one,u8s_drop] at hcut
  have hhead:=hcut.head (k:=en-rk) (by omega)
  rw [Nat.mul_one,u8s_take] at hhead
  obtain ⟨A2,hA2⟩:∃ A2,(if c=rk then A else Option.map (fun x=>x.add rk) A)=A2:=⟨_,rfl⟩
  rw [hA2] at hhead
  have hC:=run_bytes_string w 35 9 5 Tryz.underlying35 Tryz.underlying5 Tryz.underlying9 _ A2 (en-rk) (c-rk) _ hhead
  have Htxt:=Lib.hid (show txt ((r.drop rk).take (en-rk))=txt ((r.drop rk).take rn) from by rw [<-hen,Nat.add_sub_cancel_left])
  change _=Result.ok (Value.string (txt ((r.drop rk).take (en-rk)))) w at hC
  rw [Htxt.out] at hC
  generalize txt ((r.drop rk).take rn)=s at hC Htk
  clear hcut hhead hen hr
  go_wp2
  go_ret3
  exact readT_ok Htk.out (by have:=Hen.out;omega) (by have:=Hen.out;omega) (Below.refl _ _)
 rw [if_pos hre] at htk
 have hn:((re:Int)==0)=false:=by simp;omega
 have hn2:((re:Int) != 0)=true:=by simp;omega
 have Htk:=Lib.hid htk
 have Hre:=Lib.hid hre
 clear htk hk4 hre
 go_wp2
 go_ret3
 exact readT_err Htk.out Hre.out (Below.refl _ _)
def textA (xs:List UInt8) (p e:Nat) (most:Int):ByteArray×Nat×Nat:=
 if e≠0 then (⟨#[]⟩,p,e) else match takeT most (xs.drop p) with
  | .error er=>(⟨#[]⟩,p,er)
  | .ok (s,n)=>(s,p+n,0)
set_option maxHeartbeats 400000 in
theorem ptext_any (g:Nat) (xs:List UInt8) (p e:Nat) (most:Int) (w:World) (h:PRd w g xs p e) (hl:xs.length<=1099511627776) (hmo:most<=9223372036854775807) :
  Calls Tryz.prog 144 #[.pointer (some ⟨g,0,none⟩),.int .i64 most] w (Asked g xs (.string (textA xs p e most).1) (textA xs p e most).2.1 (textA xs p e most).2.2 w):=by
 have hglt:=h.lt
 have H:=Lib.hid h
 clear h
 by_cases he:e=0
 ·subst he
  have hv:textA xs p 0 most=textA xs p 0 most:=rfl
  conv at hv=>rhs;unfold textA;rw [if_neg (by simp)]
  have Hv:=Lib.hid hv
  clear hv
  go_enter Tryz.func144,Tryz.ntmps144
  go_wp2_with fail
  have hb1:Below w.heap.size w (w.alloc (.cells #[.int .i64 most] 3)):=(Below.refl _ _).alloc (Nat.le_refl _) _
  with_reducible refine (takeT_any g xs p (textE most (xs.drop p)) (TextG most (xs.drop p)) ⟨w.heap.size,0,none⟩ _ (H.out.on hb1) (by omega) (fun v a b h _ hg=>h.keep) ?_).mono ?_
  ·intro A c hr h1 h2
   exact text1_any A (xs.length-p) c (xs.drop p) most ⟨w.heap.size,0,none⟩ _ hr h1 h2 (by simp) (by simp) (by omega) hmo
  rintro e w2 ⟨hg,hcase⟩
  have hg0:w.grownBy w2 (some g):=(below_grown hb1).trans hg
  rcases hcase with ⟨er,her,hres,rfl,hp⟩ | ⟨v,k,hres,⟨s,n,hs,rfl⟩,rfl,hpn,hp⟩
  ·have hv:textA xs p 0 most=(⟨#[]⟩,p,er):=by
    rw [Hv.out]
    unfold textE at hres
    rcases ht:takeT most (xs.drop p) with e2 | ⟨s,n⟩
    ·rw [ht] at hres
     injection hres with hres
     rw [hres]
    rw [ht] at hres
    cases hres
   have Hv2:=Lib.hid hv
   clear hv hres her hb1
   go_wp2
   go_ret
   unfold Asked
   rw [Hv2.out]
   exact ⟨rfl,hg0,hp⟩
  have hv:textA xs p 0 most=(s,p+n,0):=by rw [Hv.out,hs]
  have hkn:k=n:=by
   unfold textE at hres
   rw [hs] at hres
   injection hres with hres
   exact hres.symm
  subst hkn
  have Hv2:=Lib.hid hv
  clear hv hres hs hb1
  go_wp2
  go_ret
  unfold Asked
  rw [Hv2.out]
  exact ⟨rfl,hg0,hp⟩
 have hv:textA xs p e most=(⟨#[]⟩,p,e):=by unfold textA;rw [if_pos he]
 have Hv:=Lib.hid hv
 have He:=Lib.hid he
 clear hv he
 have hb1:Below w.heap.size w (w.alloc (.cells #[.int .i64 most] 3)):=(Below.refl _ _).alloc (Nat.le_refl _) _
 have H1:=Lib.hid (H.out.on hb1)
 go_enter Tryz.func144,Tryz.ntmps144
 go_wp2_with fail
 with_reducible refine (ptakeT_err g xs p e _ _ H1.out He.out).mono ?_
 rintro e w2 ⟨rfl,rfl⟩
 have hg0:w.grownBy _ (some g):=below_grown hb1
 clear hb1
 go_wp2
 go_ret
 unfold Asked
 rw [Hv.out]
 exact ⟨rfl,hg0,H1.out⟩
end Go.Proofs.YtjpjalmilfgckaaGreatDoor
namespace Go.Proofs.YtjpjalmilfgckaaGreatDoor
def nameC (c:UInt8):Bool:=decide (97<=c.toNat/\c.toNat<=122)||decide (48<=c.toNat/\c.toNat<=57)||decide (c.toNat=95)
def nameL:List UInt8->Bool
 | []=>false
 | c::l=>decide (l.length<32)&&decide (97<=c.toNat/\c.toNat<=122)&&l.all nameC
def nameB (s:ByteArray):Bool:=nameL s.data.toList
def nameS:List UInt8:=[97,98,99,100,101,102,103,104,105,106,107,108,109,110,111,112,113,114,115,116,117,118,119,120,121,122,48,49,50,51,52,53,54,55,56,57,95]
theorem nameS_at (c:UInt8):nameS.contains c=nameC c:=by
 have key:∀ n:Fin 256,nameS.contains (UInt8.ofNat n.val)=nameC (UInt8.ofNat n.val):=by decide +kernel
 have:=key ⟨c.toNat,UInt8.toNat_lt c⟩
 simpa using this
theorem nameC_ascii {c:UInt8} (h:nameC c=true):c.toNat<128:=by
 unfold nameC at h
 simp only [Bool.or_eq_true,decide_eq_true_eq] at h
 omega
theorem nameL_eq (l:List UInt8):nameL l=(decide (0<l.length)&&decide (l.length<=32)&&decide (97<=(l.getD 0 0).toNat/\(l.getD 0 0).toNat<=122)&&l.all nameC):=by
 cases l with
 | nil=>rfl
 | cons c l=>
  have h:decide (97<=c.toNat/\c.toNat<=122)=true->nameC c=true:=by
   intro h
   unfold nameC
   rw [h]
   rfl
  simp only [nameL,List.length_cons,List.getD_cons_zero,List.all_cons,Nat.succ_pos,decide_true,Bool.true_and]
  rw [show decide (l.length+1<=32)=decide (l.length<32) from by congr 1]
  cases hc:decide (97<=c.toNat/\c.toNat<=122) with
  | true=>rw [h hc];simp
  | false=>simp
theorem trim_nil (l:List UInt8):(Lib.trimS l nameS).length=0 ↔ l.all nameC=true:=by
 have hd:∀ m:List UInt8,(m.dropWhile (nameS.contains ·)).length=0 ↔ m.all nameC=true:=by
  intro m
  induction m with
  | nil=>simp
  | cons c m ih=>
   rw [List.dropWhile_cons,nameS_at,List.all_cons]
   cases nameC c with
   | true=>simpa using ih
   | false=>simp
 unfold Lib.trimS Lib.trimLeftS Lib.trimRightS
 rw [hd,List.all_reverse,<-List.all_reverse (l:=l)]
 constructor
 ·intro h
  have h1:∀ m:List UInt8,(m.dropWhile (nameS.contains ·)).all nameC=true->m.all nameC=true:=by
   intro m
   induction m with
   | nil=>simp
   | cons c m ih=>
    rw [List.dropWhile_cons,nameS_at,List.all_cons]
    cases hc:nameC c with
    | true=>simpa using ih
    | false=>
     rw [if_neg (by simp),List.all_cons,hc]
     simp
  exact h1 _ h
 intro h
 have h1:=(hd l.reverse).2 h
 rw [List.eq_nil_of_length_eq_zero h1]
 rfl
end Go.Proofs.YtjpjalmilfgckaaGreatDoor
namespace Go.Proofs.YtjpjalmilfgckaaGreatDoor
open Go.RowKit
def lessB (a b:ByteArray):Bool:=Go.Op.bytesLess a.data.toList b.data.toList
def cmpCl (a b:Cl):Int:=
 if a.1=b.1 then (if Lib.compareInt a.2.1 b.2.1≠0 then Lib.compareInt a.2.1 b.2.1 else Lib.compareBytes a.2.2.data.toList b.2.2.data.toList)
 else if a.1 then -1 else 1
def cmpR:List Cl->List Cl->Int
 | [],[]=>0
 | [],_::_ => -1
 | _::_,[]=>1
 | a::l,b::m=>if cmpCl a b=0 then cmpR l m else cmpCl a b
theorem cmpI_cases (x y:Int):(x<y/\Lib.compareInt x y = -1)\/(y<x/\Lib.compareInt x y=1)\/(x=y/\Lib.compareInt x y=0):=by
 unfold Lib.compareInt
 by_cases h1:x<y
 ·exact .inl ⟨h1,by rw [if_pos h1]⟩
 by_cases h2:x>y
 ·exact .inr (.inl ⟨h2,by rw [if_neg h1,if_pos h2]⟩)
 exact .inr (.inr ⟨by omega,by rw [if_neg h1,if_neg h2]⟩)
theorem cmpR_step {a b:List Cl} {k:Nat} {x y:Cl} (h1:a[k]? = some x) (h2:b[k]? = some y):cmpR (a.drop k) (b.drop k)=if cmpCl x y=0 then cmpR (a.drop (k+1)) (b.drop (k+1)) else cmpCl x y:=by
 obtain ⟨g1,rfl⟩:=List.getElem?_eq_some_iff.1 h1
 obtain ⟨g2,rfl⟩:=List.getElem?_eq_some_iff.1 h2
 rw [List.drop_eq_getElem_cons g1,List.drop_eq_getElem_cons g2,cmpR]
theorem cmpR_end {a b:List Cl} {k:Nat} (h:k=min a.length b.length):cmpR (a.drop k) (b.drop k)=Lib.compareInt a.length b.length:=by
 have e1:a.length<=k->a.drop k=[]:=fun h=>List.drop_of_length_le h
 have e2:b.length<=k->b.drop k=[]:=fun h=>List.drop_of_length_le h
 rcases cmpI_cases (a.length:Int) (b.length:Int) with ⟨h1,h2⟩ | ⟨h1,h2⟩ | ⟨h1,h2⟩
 ·rw [h2,e1 (by omega),List.drop_eq_getElem_cons (l:=b) (i:=k) (by omega)];rfl
 ·rw [h2,e2 (by omega),List.drop_eq_getElem_cons (l:=a) (i:=k) (by omega)];rfl
 rw [h2,e1 (by omega),e2 (by omega)];rfl
end Go.Proofs.YtjpjalmilfgckaaGreatDoor
namespace Go.Proofs.YtjpjalmilfgckaaGreatDoor
open Go.RowKit
abbrev Sc:=List Co×List Int
abbrev Mk:=ByteArray×Int
abbrev St:=Int×Int×List Mk×List It×List UInt8
def allPrev {α:Type} (f:Option α->α->Bool):Option α->List α->Bool
 | _,[]=>true
 | p,x::l=>f p x&&allPrev f (some x) l
def prevL {α:Type} (l:List α) (i:Nat):Option α:=if i=0 then none else l[i-1]?
theorem drop_at {α:Type} {l:List α} {i:Nat} {x:α} (h:l[i]? = some x):l.drop i=x::l.drop (i+1):=by
 obtain ⟨hi,rfl⟩:=List.getElem?_eq_some_iff.1 h
 exact List.drop_eq_getElem_cons hi
theorem allPrev_step {α:Type} (f:Option α->α->Bool) {l:List α} {i:Nat} {x:α} (h:l[i]? = some x) :
  allPrev f (prevL l i) (l.drop i)=(f (prevL l i) x&&allPrev f (prevL l (i+1)) (l.drop (i+1))):=by
 have hp:prevL l (i+1)=some x:=by unfold prevL;rw [if_neg (by omega)];exact h
 rw [drop_at h,allPrev,hp]
theorem allPrev_end {α:Type} (f:Option α->α->Bool) {l:List α} {i:Nat} (h:l.length<=i):allPrev f (prevL l i) (l.drop i)=true:=by
 rw [List.drop_of_length_le h];rfl
theorem allPrev_mem {α:Type} {f:Option α->α->Bool}:∀ {p:Option α} {l:List α},allPrev f p l=true->∀ x∈l,∃ q,f q x=true
 | _,[],_,x,hx=>by simp at hx
 | p,y::l,h,x,hx=>by
  rw [allPrev,Bool.and_eq_true] at h
  rcases List.mem_cons.1 hx with rfl | hx
  ·exact ⟨p,h.1⟩
  exact allPrev_mem h.2 x hx
def riseF (lo hi:Int) (p:Option Int) (x:Int):Bool:=decide (lo<=x/\x<=hi)&&p.all (fun y=>decide (y<x))
def risesB (lo hi:Int) (l:List Int):Bool:=allPrev (riseF lo hi) none l
def memB (x:ByteArray) (l:List ByteArray):Bool:=l.any fun y=>decide (y=x)
def nodupB:List ByteArray->Bool
 | []=>true
 | x::l => !memB x l&&nodupB l
def colF (c:Co):Bool:=nameB c.2.1&&checkE c.2.2.1 c.2.2.2.1 c.2.2.2.2==0
def keyF (cs:List Co) (k:Int):Bool:=match cs[k.toNat]? with | some c => !c.2.2.2.1 | none=>false
def schB (s:Sc):Bool:=
 s.1.all colF&&decide (1<=s.1.length/\s.1.length<=32)&&nodupB (s.1.map (·.2.1))&&risesB 1 1048576 (s.1.map (·.1)) &&
 decide (s.2.length<=8)&&risesB 0 ((s.1.length:Int)-1) s.2&&s.2.all (keyF s.1)
def schE (s:Sc):Int:=if schB s then 0 else 2
def markF (p:Option Mk) (m:Mk):Bool:=nameB m.1&&decide (0<=m.2/\m.2<=9007199254740991)&&p.all (fun q=>lessB q.1 m.1)
def marksB (l:List Mk):Bool:=allPrev markF none l&&decide (l.length<=16)
def zsF (p:Option It) (it:It):Bool:=decide (it.2≠0)&&p.all (fun q=>decide (cmpR q.1 it.1<0))
def zsB (l:List It):Bool:=allPrev zsF none l
def oddF (cs:List Co) (it:It):Bool:=decide (it.2=1)&&rowE cs it.1==0
def rowsB (cs:List Co) (l:List It):Bool:=decide (l.length<=4096)&&l.all (oddF cs)&&zsB l
def stB (s:Sc) (st:St):Bool:=
 schB s&&decide (1<=st.1/\st.1<=64/\0<=st.2.1)&&decide (st.2.2.2.2.length<=1048576)&&marksB st.2.2.1&&rowsB s.1 st.2.2.2.1
def imgE (s:Sc) (st:St):Int:=if stB s st then 0 else 2
def asC (c:Co):Co:=(c.1,c.2.1,if c.2.2.1=2 then 3 else c.2.2.1,c.2.2.2)
def staysB (c d:Co):Bool:=decide (asC c=asC d) && !(decide (c.2.2.1=3)&&decide (d.2.2.1=2))
def keysL (s:Sc):List Int:=s.2.map fun k=>((s.1[k.toNat]?).map (·.1)).getD 0
def folF (a:Sc) (above:Int) (d:Co):Bool:=match a.1.find? (fun c=>decide (c.1=d.1)) with | some c=>staysB c d | none=>decide (above<d.1)
def folB (a b:Sc) (above:Int):Bool:=b.1.all (folF a above)&&decide (keysL a=keysL b)
def greatL (s:Sc):Int:=match s.1.getLast? with | some c=>c.1 | none=>0
def chainF:Int->Option Sc->List Sc->Bool
 | _,_,[]=>true
 | above,p,s::l=>p.all (fun q=>folB q s above)&&chainF (max above (greatL s)) (some s) l
def chainE (l:List Sc):Int:=if 64<l.length then 5 else if l.all schB then (if chainF 0 none l then 0 else 120) else 2
def runB (b:List UInt8):List UInt8:=leb b.length++b
def marksW (l:List Mk):List UInt8:=l.flatMap fun m=>textB m.1++leb m.2.toNat
def imgH (st:St):List UInt8:=leb st.1.toNat++(leb st.2.1.toNat++leb st.2.2.1.length)
def imgR (s:Sc) (st:St):List UInt8:=imgH st++(marksW st.2.2.1++(runB (encA s.1 (st.1,st.2.1,st.2.2.2.1))++runB st.2.2.2.2))
def imgB (s:Sc) (st:St):List UInt8:=[77,73,1]++imgR s st
def imgA (s:Sc) (st:St):List UInt8:=imgB s st++sumB (crcS (imgB s st))
abbrev MkS:=List Mk×Nat×Nat
def markA (xs:List UInt8) (s:MkS):MkS:=
 (s.1 ++ [((textA xs s.2.1 s.2.2 32).1, toI (varA xs (textA xs s.2.1 s.2.2 32).2.1 (textA xs s.2.1 s.2.2 32).2.2).1)],
  (varA xs (textA xs s.2.1 s.2.2 32).2.1 (textA xs s.2.1 s.2.2 32).2.2).2)
def markI (xs:List UInt8) (s:MkS):Nat->MkS
 | 0=>s
 | n+1=>markA xs (markI xs s n)
def parseT (s:Sc) (xs:List UInt8) (v q:Int) (ms:List Mk) (p e:Nat):Got St:=
 match decB s.1 (textA xs p e 2147483647).1.data.toList with
 | .error _=>.error 280
 | .ok b=>
  if b.1=v/\b.2.1=q then
   (if endE (xs.length-(textA xs (textA xs p e 2147483647).2.1 (textA xs p e 2147483647).2.2 1048576).2.1) (textA xs (textA xs p e 2147483647).2.1 (textA xs p e 2147483647).2.2 1048576).2.2=0 /\
     stB s (v,q,ms,b.2.2,(textA xs (textA xs p e 2147483647).2.1 (textA xs p e 2147483647).2.2 1048576).1.data.toList)=true
    then .ok (v,q,ms,b.2.2,(textA xs (textA xs p e 2147483647).2.1 (textA xs p e 2147483647).2.2 1048576).1.data.toList) else .error 280)
  else .error 280
def v1 (xs:List UInt8):=varA xs 0 0
def v2 (xs:List UInt8):=varA xs (v1 xs).2.1 (v1 xs).2.2
def v3 (xs:List UInt8):=varA xs (v2 xs).2.1 (v2 xs).2.2
def parseI (s:Sc) (xs:List UInt8):Got St:=
 if (v3 xs).2.2=0/\(v3 xs).1<=16 then
  parseT s xs (toI (v1 xs).1) (toI (v2 xs).1) (markI xs ([],(v3 xs).2) (v3 xs).1).1 (markI xs ([],(v3 xs).2) (v3 xs).1).2.1 (markI xs ([],(v3 xs).2) (v3 xs).1).2.2
 else .error 280
def parseA (l:List Sc) (xs:List UInt8):Got St:=
 if chainE l≠0 then .error 2
 else if xs.length<4 then .error 3
 else if sumB (crcS (xs.take (xs.length-4)))≠xs.drop (xs.length-4) then .error 170
 else if (xs.take (xs.length-4)).take 3≠[77,73,1]\/(get ((xs.take (xs.length-4)).drop 3)).2.2≠0 then .error 280
 else match (if (get ((xs.take (xs.length-4)).drop 3)).1=0 then none else l[(get ((xs.take (xs.length-4)).drop 3)).1-1]?) with
  | none=>.error 131
  | some s=>parseI s ((xs.take (xs.length-4)).drop 3)
end Go.Proofs.YtjpjalmilfgckaaGreatDoor
