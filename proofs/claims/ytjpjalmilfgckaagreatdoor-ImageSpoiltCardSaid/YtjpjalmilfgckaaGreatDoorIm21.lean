/- Part 21 of the walks, merged: each text under its own heading. Conditions: none of its own; each lemma states what it asks. -/
import Derived.Test.YtjpjalmilfgckaaGreatDoorIm7
import Derived.Test.YtjpjalmilfgckaaGreatDoorIm8
import Derived.Test.YtjpjalmilfgckaaGreatDoorIm9
import Derived.Test.YtjpjalmilfgckaaGreatDoorIm10
import Derived.Test.YtjpjalmilfgckaaGreatDoorIm12
import Derived.Test.YtjpjalmilfgckaaGreatDoorIm16
import Derived.Test.YtjpjalmilfgckaaGreatDoorIm17
import Derived.Test.YtjpjalmilfgckaaGreatDoorIm20
import Derived.Laws.ResultCell
set_option maxRecDepth 100000
set_option linter.unusedVariables false
set_option linter.unusedSimpArgs false
namespace Go.Proofs.YtjpjalmilfgckaaGreatDoor
open Go.RowKit
set_option maxHeartbeats 2000000 in
theorem ceq_any (A B:Option Addr) (n c m d:Nat) (l1 l2:List Cl) (w:World) (h1:Reads w w.heap.size 3 A n (cls l1)) (h2:Reads w w.heap.size 3 B m (cls l2)) (hn:n<=maxLen) :
  Calls Tryz.prog 151 #[.slice A n c,.slice B m d] w fun e w'=>e=.returned (.bool (decide (l1=l2)))/\Below w.heap.size w w':=by
 have H1:=Lib.hid h1
 have H2:=Lib.hid h2
 have Hl1:=Lib.hid (cls_len h1)
 have Hl2:=Lib.hid (cls_len h2)
 have hn63:n<=9223372036854775807:=by simp only [maxLen] at hn;omega
 clear h1 h2 hn
 by_cases hnm:n=m
 ·subst hnm
  go_enter Tryz.func151,Tryz.ntmps151
  go_wp2
  go_loopw [13] (fun i wr=>∃ j:Nat,j<=n/\i=.int .i64 (j:Int)/\Hid (l1.take j=l2.take j)/\Hid (Below w.heap.size w wr)) (fun i _=>n-(intOf i).toNat)
  case atStart=>exact ⟨0,Nat.zero_le _,rfl,Lib.hid rfl,Lib.hid (Below.refl _ _)⟩
  case round=>
   obtain ⟨j,hj,rfl,Htk,HB⟩:=hrel
   by_cases hlt:j<n
   ·obtain ⟨ad,u,x,s,rfl,hbk,hx,a0,a1,a2⟩:=cls_at (H1.out.below HB.out) hlt
    obtain ⟨ad',u',x',s',rfl,hbk',hx',b0,b1,b2⟩:=cls_at (H2.out.below HB.out) hlt
    have Hx:=Lib.hid hx
    have Hx':=Lib.hid hx'
    have HA0:=Lib.hid (show ∀ w',w'=wr.drew->w'.cell? (ad.add (j*3))=some (.bool u) from fun w' h=>by rw [h];exact a0)
    have HA1:=Lib.hid (show ∀ w',w'=wr.drew->w'.cell? ⟨(ad.add (j*3)).block,(ad.add (j*3)).off+1,none⟩=some (.int .i64 x) from fun w' h=>by rw [h];exact a1)
    have HA2:=Lib.hid (show ∀ w',w'=wr.drew->w'.cell? ⟨(ad.add (j*3)).block,(ad.add (j*3)).off+2,none⟩=some (.string s) from fun w' h=>by rw [h];exact a2)
    have HB0:=Lib.hid (show ∀ w',w'=wr.drew->w'.cell? (ad'.add (j*3))=some (.bool u') from fun w' h=>by rw [h];exact b0)
    have HB1:=Lib.hid (show ∀ w',w'=wr.drew->w'.cell? ⟨(ad'.add (j*3)).block,(ad'.add (j*3)).off+1,none⟩=some (.int .i64 x') from fun w' h=>by rw [h];exact b1)
    have HB2:=Lib.hid (show ∀ w',w'=wr.drew->w'.cell? ⟨(ad'.add (j*3)).block,(ad'.add (j*3)).off+2,none⟩=some (.string s') from fun w' h=>by rw [h];exact b2)
    clear hx hx' hbk hbk' a0 a1 a2 b0 b1 b2
    by_cases hc:(u,x,s)=(u',x',s')
    ·simp only [Prod.mk.injEq] at hc
     obtain ⟨rfl,rfl,rfl⟩:=hc
     have Htk2:=Lib.hid (show l1.take (j+1)=l2.take (j+1) by rw [List.take_add_one,List.take_add_one,Hx.out,Hx'.out,Htk.out])
     go_wp2
     have hji:(j:Int)<(n:Int):=by omega
     have hS:wr.drew=wr.drew:=rfl
     refine hR (fun w'=>w'=wr.drew) [ff 0,ff 1,ff 2,ff 3,ff 4,ff 5,ff 6,ff 7,ff 8] ?_
     iterate 3
      refine hP hS ?_
     refine hP3 hS HA0.out HA1.out HA2.out ?_
     iterate 3
      refine hP hS ?_
     refine hP3 hS HB0.out HB1.out HB2.out ?_
     refine hP hS ?_
     refine held_end ?_
     go_wp2
     go_roundw
     case rel=>exact ⟨j+1,by omega,by go_num,Htk2,Lib.hid HB.out.drew⟩
     case measure=>simp [intOf];omega
    have Hne:=Lib.hid (show decide (l1=l2)=false from decide_eq_false (fun h=>hc (by subst h;exact Option.some.inj (Hx.out.symm.trans Hx'.out))))
    have Hc:=Lib.hid hc
    clear hc
    cases u with
    | false=>
     cases u' with
     | false=>
      by_cases hxx:x=x'
      ·subst hxx
       have hss:¬s.toList=s'.toList:=by
        intro h
        apply Hc.out
        have:(s.toList==s'.toList)=true:=by rw [h];simp
        rw [text_eqb2] at this
        rw [of_decide_eq_true this]
       go_wp2
       have hji:(j:Int)<(n:Int):=by omega
       have hS:wr.drew=wr.drew:=rfl
       refine hR (fun w'=>w'=wr.drew) [ff 0,ff 1,ff 2,ff 3,ff 4,ff 5,ff 6,ff 7,ff 8] ?_
       iterate 3
        refine hP hS ?_
       refine hP3 hS HA0.out HA1.out HA2.out ?_
       iterate 3
        refine hP hS ?_
       refine hP3 hS HB0.out HB1.out HB2.out ?_
       refine hP hS ?_
       refine held_end ?_
       go_wp2
       go_ret
       rw [Hne.out]
       exact ⟨rfl,HB.out.drew⟩
      have hxb:(x==x')=false:=by simpa using hxx
      go_wp2
      have hji:(j:Int)<(n:Int):=by omega
      have hS:wr.drew=wr.drew:=rfl
      refine hR (fun w'=>w'=wr.drew) [ff 0,ff 1,ff 2,ff 3,ff 4,ff 5,ff 6,ff 7,ff 8] ?_
      iterate 3
       refine hP hS ?_
      refine hP3 hS HA0.out HA1.out HA2.out ?_
      iterate 3
       refine hP hS ?_
      refine hP3 hS HB0.out HB1.out HB2.out ?_
      refine hP hS ?_
      refine held_end ?_
      go_wp2
      go_ret
      rw [Hne.out]
      exact ⟨rfl,HB.out.drew⟩
     | true=>
      go_wp2
      have hji:(j:Int)<(n:Int):=by omega
      have hS:wr.drew=wr.drew:=rfl
      refine hR (fun w'=>w'=wr.drew) [ff 0,ff 1,ff 2,ff 3,ff 4,ff 5,ff 6,ff 7,ff 8] ?_
      iterate 3
       refine hP hS ?_
      refine hP3 hS HA0.out HA1.out HA2.out ?_
      iterate 3
       refine hP hS ?_
      refine hP3 hS HB0.out HB1.out HB2.out ?_
      refine hP hS ?_
      refine held_end ?_
      go_wp2
      go_ret
      rw [Hne.out]
      exact ⟨rfl,HB.out.drew⟩
    | true=>
     cases u' with
     | false=>
      go_wp2
      have hji:(j:Int)<(n:Int):=by omega
      have hS:wr.drew=wr.drew:=rfl
      refine hR (fun w'=>w'=wr.drew) [ff 0,ff 1,ff 2,ff 3,ff 4,ff 5,ff 6,ff 7,ff 8] ?_
      iterate 3
       refine hP hS ?_
      refine hP3 hS HA0.out HA1.out HA2.out ?_
      iterate 3
       refine hP hS ?_
      refine hP3 hS HB0.out HB1.out HB2.out ?_
      refine hP hS ?_
      refine held_end ?_
      go_wp2
      go_ret
      rw [Hne.out]
      exact ⟨rfl,HB.out.drew⟩
     | true=>
      by_cases hxx:x=x'
      ·subst hxx
       have hss:¬s.toList=s'.toList:=by
        intro h
        apply Hc.out
        have:(s.toList==s'.toList)=true:=by rw [h];simp
        rw [text_eqb2] at this
        rw [of_decide_eq_true this]
       go_wp2
       have hji:(j:Int)<(n:Int):=by omega
       have hS:wr.drew=wr.drew:=rfl
       refine hR (fun w'=>w'=wr.drew) [ff 0,ff 1,ff 2,ff 3,ff 4,ff 5,ff 6,ff 7,ff 8] ?_
       iterate 3
        refine hP hS ?_
       refine hP3 hS HA0.out HA1.out HA2.out ?_
       iterate 3
        refine hP hS ?_
       refine hP3 hS HB0.out HB1.out HB2.out ?_
       refine hP hS ?_
       refine held_end ?_
       go_wp2
       go_ret
       rw [Hne.out]
       exact ⟨rfl,HB.out.drew⟩
      have hxb:(x==x')=false:=by simpa using hxx
      go_wp2
      have hji:(j:Int)<(n:Int):=by omega
      have hS:wr.drew=wr.drew:=rfl
      refine hR (fun w'=>w'=wr.drew) [ff 0,ff 1,ff 2,ff 3,ff 4,ff 5,ff 6,ff 7,ff 8] ?_
      iterate 3
       refine hP hS ?_
      refine hP3 hS HA0.out HA1.out HA2.out ?_
      iterate 3
       refine hP hS ?_
      refine hP3 hS HB0.out HB1.out HB2.out ?_
      refine hP hS ?_
      refine held_end ?_
      go_wp2
      go_ret
      rw [Hne.out]
      exact ⟨rfl,HB.out.drew⟩
   obtain rfl:j=n:=by omega
   have He:=Lib.hid (show decide (l1=l2)=true by
    have:=Htk.out
    rw [List.take_of_length_le (by rw [Hl1.out];exact Nat.le_refl _),List.take_of_length_le (by rw [Hl2.out];exact Nat.le_refl _)] at this
    exact decide_eq_true this)
   go_wp2
   go_ret
   rw [He.out]
   exact ⟨rfl,HB.out⟩
 have hne:(n==m)=false:=by simpa using hnm
 have hne2:((n:Int)==(m:Int))=false:=by simp;omega
 have Hne:=Lib.hid (show decide (l1=l2)=false from decide_eq_false (fun h=>hnm (by rw [<-Hl1.out,<-Hl2.out,h])))
 go_enter Tryz.func151,Tryz.ntmps151
 go_wp2
 go_ret
 rw [Hne.out]
 exact ⟨rfl,Below.refl _ _⟩
theorem rsame_any (A B:Option Addr) (n c m d:Nat) (l1 l2:List Cl) (w:World) (h1:Reads w w.heap.size 3 A n (cls l1)) (h2:Reads w w.heap.size 3 B m (cls l2)) (hn:n<=maxLen) :
  Calls Tryz.prog 92 #[.slice A n c,.slice B m d] w fun e w'=>e=.returned (.bool (decide (l1=l2)))/\Below w.heap.size w w':=by
 have HK:=Lib.hid (ceq_any A B n c m d l1 l2 w h1 h2 hn)
 clear h1 h2 hn
 go_enter Tryz.func92,Tryz.ntmps92
 go_wp2_with fail
 with_reducible refine HK.out.mono ?_
 rintro e w1 ⟨rfl,hb⟩
 have HB:=Lib.hid hb
 clear hb
 go_wp2
 go_ret
 exact ⟨rfl,HB.out⟩
end Go.Proofs.YtjpjalmilfgckaaGreatDoor
namespace Go.Proofs.YtjpjalmilfgckaaGreatDoor
open Go.RowKit
theorem col_info:(Tryz.prog.info? 45).map (fun i=>(i.zero,i.size,i.bytes))=some (some (.agg #[.int .i64 0,.string ⟨#[]⟩,.int .i64 0,.bool false,.bool false,.int .i64 0,.string ⟨#[]⟩]),7,72):=by kernel_rfl
set_option maxHeartbeats 400000 in
theorem copyCols_any (A:Option Addr) (n c:Nat) (l:List Co) (w:World) (hr:Reads w w.heap.size 7 A n (cos l)) (hn:n<=1048576) :
  Calls Tryz.prog 85 #[.slice A n c] w fun e w'=>∃ A' c',e=.returned (.slice A' n c')/\n<=c'/\c'<=maxLen/\w'.ownsRow w.heap.size 45 7 (.slice A' n c') n (cos l)/\Below w.heap.size w w':=by
 obtain ⟨i0,hi0,hz0,hz1,hz2⟩:=info_parts col_info
 go_enter Tryz.func85,Tryz.ntmps85
 go_wp2_with (at_builtin
              refine wpList_append_any _ rfl (.tmp 4) (.tmp 5) 32 rfl w.heap.size 45 i0 (.agg #[.int .i64 0,.string ⟨#[]⟩,.int .i64 0,.bool false,.bool false,.int .i64 0,.string ⟨#[]⟩]) 7 72 Tryz.underlying32 hi0 hz0 hz1 hz2 rfl (by decide) none 0 0 [] rfl (World.ownsRow_nil _ _ _ _) A n c (cos l) rfl hr (cos_one l) (by simp only [maxLen];omega) (by omega) (Nat.le_refl _) ?_
              intro A2 c2 w2 hown2 hb2 hg2 hc2 hm2
              simp only [Nat.zero_add,List.nil_append] at hown2 hc2)
 go_ret
 exact ⟨A2,c2,by simp,hc2,hm2,hown2,hb2⟩
end Go.Proofs.YtjpjalmilfgckaaGreatDoor
namespace Go.Proofs.YtjpjalmilfgckaaGreatDoor
open Go.RowKit
def EncP (E:Int) (bs:List UInt8) (w:World) (e:Ending) (w':World):Prop:=
 Below w.heap.size w w'/\((E=0/\∃ A c,e=.returned (.tuple #[.slice A bs.length c,.int .i64 0])/\w'.ownsRow w.heap.size 5 1 (.slice A bs.length c) bs.length (u8s bs))\/(E≠0/\e=.returned (.tuple #[.slice none 0 0,.int .i64 E])))
set_option maxHeartbeats 1000000 in
theorem benc_any (A:Option Addr) (n c:Nat) (cs:List Co) (v s:Int) (I:Option Addr) (m d:Nat) (l:List It) (w:World) (hr:Reads w w.heap.size 7 A n (cos cs)) (hn:n<=maxLen) (hi:ItemsAt w w.heap.size I m l) (hm:m<=maxLen) (hok:BaOk (v,s,l)) (hcl:ItOk l) (hT:Tab2 w.heap.size w) :
  Calls Tryz.prog 12 #[.slice A n c,.agg #[.int .i64 v,.int .i64 s,.slice I m d]] w (EncP (batE cs (v,s,l)) (encA cs (v,s,l)) w):=by
 have hin:=callFunc_in Tryz.func39 (by kernel_rfl) (by kernel_rfl)
 obtain ⟨W2,hW2⟩:∃ W2,W2=((w.alloc (.cells #[.slice A n c] 32)).alloc (.cells #[.int .i64 v,.int .i64 s,.slice I m d] 30)).alloc (.cells #[.slice none 0 0] 35):=⟨_,rfl⟩
 obtain ⟨W3,hW3⟩:∃ W3,W3=W2.alloc (.cells #[.int .i64 0] 36):=⟨_,rfl⟩
 have hb2:Below w.heap.size w W2:=by rw [hW2];exact bal (bal (bal (Below.refl _ _) _) _) _
 have hb3:Below W2.heap.size W2 W3:=by rw [hW3];exact bal (Below.refl _ _) _
 have hs2:W2.heap.size=w.heap.size+3:=by rw [hW2];simp
 have hs3:W3.heap.size=w.heap.size+4:=by rw [hW3];simp [hs2]
 have hw3:Below w.heap.size w W3:=hb2.trans (hb3.mono (by omega))
 have B2:Blk W3 (w.heap.size+2) 35 #[.slice none 0 0]:=by
  have:=(Blk.new ((w.alloc (.cells #[.slice A n c] 32)).alloc (.cells #[.int .i64 v,.int .i64 s,.slice I m d] 30)) 35 #[.slice none 0 0]).alloc (.cells #[.int .i64 0] 36)
  rw [hW3,hW2]
  simpa using this
 have B1:Blk W3 (w.heap.size+1) 30 #[.int .i64 v,.int .i64 s,.slice I m d]:=by
  have:=((Blk.new (w.alloc (.cells #[.slice A n c] 32)) 30 #[.int .i64 v,.int .i64 s,.slice I m d]).alloc (.cells #[.slice none 0 0] 35)).alloc (.cells #[.int .i64 0] 36)
  rw [hW3,hW2]
  simpa using this
 have B0:Blk W3 w.heap.size 32 #[.slice A n c]:=by
  have:=(((Blk.new w 32 #[.slice A n c]).alloc (.cells #[.int .i64 v,.int .i64 s,.slice I m d] 30)).alloc (.cells #[.slice none 0 0] 35)).alloc (.cells #[.int .i64 0] 36)
  rw [hW3,hW2]
  exact this
 have BE:Blk W3 W2.heap.size 36 #[.int .i64 0]:=by rw [hW3];exact Blk.new _ _ _
 have HK:=Lib.hid (caught_any 39 #[.pointer (some ⟨w.heap.size,0,none⟩),.pointer (some ⟨w.heap.size+1,0,none⟩),.pointer (some ⟨w.heap.size+2,0,none⟩)] W2 (fun E w'=>E=batE cs (v,s,l)/\EncR W3.heap.size (w.heap.size+2) E (encA cs (v,s,l)) W3 w') hin (by
  rw [<-hW3]
  refine (enc1_any w.heap.size w.heap.size (w.heap.size+1) (w.heap.size+2) A n c cs v s I m d l W3 (B0.cell 0) B1 B2 (by omega) (by omega) (by omega) (by omega) (hr.below hw3) hn (hi.below hw3) hm hok hcl (hT.keep hw3)).mono ?_
  rintro e w' ⟨rfl,hb⟩
  exact ⟨_,rfl,⟨rfl,hb⟩,hb.1.blk BE (by omega) (by omega)⟩))
 have Hw3:=Lib.hid hw3
 clear hr hi hT hb2 hb3 B1 B0 BE B2 hw3
 go_enter Tryz.func12,Tryz.ntmps12
 go_wp2_with fail
 rw [<-hW2]
 with_reducible refine HK.out.mono ?_
 rintro e w1 ⟨E,w2,rfl,⟨rfl,hB,A2,n2,c2,hG,hO⟩,hE,rfl⟩
 have HB:=Lib.hid ((Hw3.out.trans (hB.below (B2:=w.heap.size) (by omega) (by omega))).setCell (p:=⟨W2.heap.size,0,none⟩) (by show w.heap.size<=W2.heap.size;omega) (.int .i64 (batE cs (v,s,l))))
 have hG2:=hG.far (p:=⟨W2.heap.size,0,none⟩) (by show w.heap.size+2≠W2.heap.size;omega) (.int .i64 (batE cs (v,s,l)))
 have HO:=Lib.hid (fun h=>own_mono (own_far (hO h) hE (by decide) 0 (.int .i64 (batE cs (v,s,l)))) (show w.heap.size<=W3.heap.size by omega))
 generalize w2.setCell ⟨W2.heap.size,0,none⟩ (.int .i64 (batE cs (v,s,l)))=w5 at *
 have HG:=Lib.hid hG2
 have hcg:=hG2.cell 0
 have hfg:=hG2.frozen 0
 clear hB hG hO hE hG2 hs2 hs3
 by_cases hz:batE cs (v,s,l)=0
 ·have HZ:=Lib.hid hz
  have HO:=Lib.hid (HO.out hz)
  have HL:=Lib.hid (show (encA cs (v,s,l)).length=n2 from reads_len (own_reads HO.out))
  have HB2:=Lib.hid (HB.out.setCell (p:=⟨w.heap.size+2,0,none⟩) (by show w.heap.size<=w.heap.size+2;omega) (.slice A2 n2 c2))
  have HO2:=Lib.hid (own_far HO.out HG.out (by decide) 0 (.slice A2 n2 c2))
  have HG2:=(HG.out.set_ 0 (.slice A2 n2 c2)).cell 0
  simp only [List.setIfInBounds_toArray,List.set_cons_zero] at HG2
  rw [hz]
  clear hz
  go_wp2
  refine bodyPost_ret (v:=.tuple #[.slice A2 n2 c2,.int .i64 0]) (by rw [results_cell_tmp rfl];simp [go_sem,HG2]) rfl ?_
  exact ⟨HB2.out,.inl ⟨HZ.out,A2,c2,by rw [HL.out],by rw [HL.out];exact HO2.out⟩⟩
 have HZ:=Lib.hid hz
 have hzb:(batE cs (v,s,l) != 0)=true:=by simpa using hz
 have HB2:=Lib.hid (HB.out.setCell (p:=⟨w.heap.size+2,0,none⟩) (by show w.heap.size<=w.heap.size+2;omega) (.slice none 0 0))
 have HG2:=(HG.out.set_ 0 (.slice none 0 0)).cell 0
 simp only [List.setIfInBounds_toArray,List.set_cons_zero] at HG2
 clear hz
 go_wp2
 refine bodyPost_ret (v:=.tuple #[.slice none 0 0,.int .i64 (batE cs (v,s,l))]) (by rw [results_cell_tmp rfl];simp [go_sem,HG2]) rfl ?_
 exact ⟨HB2.out,.inr ⟨HZ.out,rfl⟩⟩
end Go.Proofs.YtjpjalmilfgckaaGreatDoor
namespace Go.Proofs.YtjpjalmilfgckaaGreatDoor
open Go.RowKit
theorem iterI_err {σ:Type} {f:Nat->σ->Got σ} {k n:Nat} {s t:σ} {e:Nat} (h:iterI f k s=.ok t) (he:f k t=.error e) (hk:k<n):iterI f n s=.error e:=by
 induction n with
 | zero=>omega
 | succ n ih=>
  rw [iterI]
  rcases Nat.lt_or_ge k n with h1 | h1
  ·rw [ih h1]
   rfl
  obtain rfl:k=n:=by omega
  rw [h,thenG_ok,he]
theorem iterI_ok {σ:Type} {f:Nat->σ->Got σ} {k:Nat} {s t u:σ} (h:iterI f k s=.ok t) (he:f k t=.ok u):iterI f (k+1) s=.ok u:=by
 rw [iterI,h,thenG_ok,he]
theorem colD_at {cs:List Co} {k:Nat} {c:Co} (h:cs[k]? = some c) (n:Int) (s:TabS):colD cs n k s=thenG (getC c.2.2.1 c.2.2.2.1 s.2 n) fun p=>.ok (s.1++[p.1],s.2.drop p.2):=by
 unfold colD
 rw [h]
theorem itemsT_snoc (t:List (List Cl)) (ws:List Int) (w:Int):itemsT t (ws++[w])=itemsT t ws++[(t.map fun l=>(l[ws.length]?).getD nullC,w)]:=by
 unfold itemsT
 rw [List.length_append,List.length_singleton,List.range_succ,List.map_append]
 congr 1
 ·refine List.map_congr_left fun i hi=>?_
  have:=List.mem_range.1 hi
  rw [List.getElem?_append_left this]
 simp
def rowTo (t:List (List Cl)) (i j:Nat):List Cl:=(t.take j).map fun l=>(l[i]?).getD nullC
theorem rowTo_zero (t:List (List Cl)) (i:Nat):rowTo t i 0=[]:=rfl
theorem rowTo_succ (t:List (List Cl)) (i j:Nat) (l:List Cl) (h:t[j]? = some l):rowTo t i (j+1)=rowTo t i j++[(l[i]?).getD nullC]:=by
 unfold rowTo
 rw [List.take_add_one,h]
 simp
theorem rowTo_all (t:List (List Cl)) (i:Nat):rowTo t i t.length=t.map fun l=>(l[i]?).getD nullC:=by
 unfold rowTo
 rw [List.take_length]
def hdV (h:Hd):Value:=.slice h.1 h.2.1 h.2.2
def tabV (hs:List Hd) (n:Nat):List Value:=hs.map hdV++List.replicate (n-hs.length) (.slice none 0 0)
theorem tabV_zero (n:Nat):tabV [] n=List.replicate n (.slice none 0 0):=by simp [tabV]
theorem tabV_set (hs:List Hd) (n:Nat) (h:Hd) (hn:hs.length<n):(tabV hs n).set hs.length (hdV h)=tabV (hs++[h]) n:=by
 unfold tabV
 rw [List.set_append_right _ _ (by simp),List.length_map,Nat.sub_self,List.length_append,List.length_singleton,List.map_append,List.append_assoc]
 congr 1
 obtain ⟨k,hk⟩:∃ k,n-hs.length=k+1:=⟨n-hs.length-1,by omega⟩
 rw [hk,show n-(hs.length+1)=k by omega,List.replicate_succ]
 rfl
theorem tabV_at {hs:List Hd} {n k:Nat} (hn:hs.length=n) {h:Hd} (hk:hs[k]? = some h):(tabV hs n)[k]? = some (hdV h):=by
 unfold tabV
 have:=(List.getElem?_eq_some_iff.1 hk).1
 rw [List.getElem?_append_left (by simpa using this),List.getElem?_map,hk]
 rfl
def asIt (t:List (List Cl)):List It:=t.map fun l=>(l,0)
def ListsOwn (w:World) (base:Nat) (hs:List Hd) (t:List (List Cl)):Prop:=RowsOwn w base hs (asIt t)
section
variable {w w':World} {base:Nat} {hs:List Hd} {t:List (List Cl)}
theorem ListsOwn.nil:ListsOwn w base [] []:=RowsOwn.nil
theorem ListsOwn.len (h:ListsOwn w base hs t):hs.length=t.length:=by have:=h.1;simpa [asIt] using this
theorem ListsOwn.below (h:ListsOwn w base hs t) (hb:Below w.heap.size w w'):ListsOwn w' base hs t:=RowsOwn.below h hb
theorem ListsOwn.far (h:ListsOwn w base hs t) {g:Nat} {ty:TypeId} {cs:Array Value} (hb:Blk w g ty cs) (hne:23≠ty) (i:Nat) (u:Value):ListsOwn (w.setCell ⟨g,i,none⟩ u) base hs t:=RowsOwn.far h hb hne i u
theorem ListsOwn.snoc {hd:Hd} {l:List Cl} (h:ListsOwn w base hs t) (h1:w.ownsRow base 23 3 (.slice hd.1 hd.2.1 hd.2.2) hd.2.1 (cls l)):ListsOwn w base (hs++[hd]) (t++[l]):=by
 have:=RowsOwn.snoc (it:=(l,0)) h h1
 unfold ListsOwn asIt
 rw [List.map_append]
 exact this
theorem ListsOwn.at_ (h:ListsOwn w base hs t) {k:Nat} {hd:Hd} {l:List Cl} (h1:hs[k]? = some hd) (h2:t[k]? = some l):Reads w w.heap.size 3 hd.1 hd.2.1 (cls l)/\hd.2.1<=hd.2.2/\hd.2.2<=maxLen:=by
 have:=(RowsOwn.at_ h).2 k hd (l,0) h1 (by simp [asIt,h2])
 exact this
end
end Go.Proofs.YtjpjalmilfgckaaGreatDoor
