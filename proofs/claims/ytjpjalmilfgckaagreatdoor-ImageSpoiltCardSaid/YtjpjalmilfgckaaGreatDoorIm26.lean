/- Part 26 of the walks, merged: each text under its own heading. Conditions: none of its own; each lemma states what it asks. -/
import Derived.Test.YtjpjalmilfgckaaGreatDoorIm7
import Derived.Test.YtjpjalmilfgckaaGreatDoorIm15
import Derived.Test.YtjpjalmilfgckaaGreatDoorIm19
import Derived.Test.YtjpjalmilfgckaaGreatDoorIm21
import Derived.Test.YtjpjalmilfgckaaGreatDoorIm25
import Derived.RangeFuncNested
import Derived.RangeFuncBound
import Derived.RangeFuncCalls
import Derived.RangeFuncLeaves
import Derived.RangeFuncFrom
import Derived.OwnWalkIn
import Derived.TacticsInMore
import Derived.LoopNIn
import Derived.LoopIn
set_option maxRecDepth 100000
set_option linter.unusedVariables false
set_option linter.unusedSimpArgs false
namespace Go.Proofs.YtjpjalmilfgckaaGreatDoor
open Go.RowKit
def aheadB (xs:List UInt8):Bool×List UInt8:=if ((xs.take (xs.length-4)).take 3==[77,73,1])=true then (true,(xs.take (xs.length-4)).drop 3) else (false,xs.take (xs.length-4))
def firstP (l:List Sc) (xs:List UInt8):List (Option Int):=
 [needO (chainE l == 0) 2, needO (decide (4 ≤ xs.length)) 3, needO (xs.drop (xs.length - 4) == sumB (crcS (xs.take (xs.length - 4)))) 170,
  needO ((aheadB xs).1&&decide ((get (aheadB xs).2).2.2=0)) 280,needO (decide (1<=(get (aheadB xs).2).1)&&decide ((get (aheadB xs).2).1<=l.length)) 131]
theorem needO_yes {b:Bool} {e:Int} (h:b=true):needO b e=none:=by rw [h];rfl
theorem needO_no {b:Bool} {e:Int} (h:b=false):needO b e=some e:=by rw [h];rfl
theorem aheadB_yes {xs:List UInt8} (h:(xs.take (xs.length-4)).take 3=[77,73,1]):aheadB xs=(true,(xs.take (xs.length-4)).drop 3):=by unfold aheadB;rw [if_pos (by simpa using h)]
theorem aheadB_no {xs:List UInt8} (h:(xs.take (xs.length-4)).take 3≠[77,73,1]):aheadB xs=(false,xs.take (xs.length-4)):=by unfold aheadB;rw [if_neg (by simpa using h)]
theorem parseA_first (l:List Sc) (xs:List UInt8):(∃ k:Nat,firstO (firstP l xs)=some (k:Int)/\k≠0/\parseA l xs=.error k) \/
  (firstO (firstP l xs)=none/\∃ s,1<=(get (aheadB xs).2).1/\(get (aheadB xs).2).1<=l.length/\l[(get (aheadB xs).2).1-1]? = some s/\parseA l xs=parseI s (aheadB xs).2):=by
 unfold firstP
 by_cases h1:chainE l=0
 ·rw [needO_yes (b:=chainE l==0) (by simpa using h1)]
  by_cases h2:4<=xs.length
  ·rw [needO_yes (b:=decide (4<=xs.length)) (decide_eq_true h2)]
   by_cases h3:xs.drop (xs.length-4)=sumB (crcS (xs.take (xs.length-4)))
   ·rw [needO_yes (b:=xs.drop (xs.length-4)==sumB (crcS (xs.take (xs.length-4)))) (by simpa using h3)]
    have hp:parseA l xs=if (xs.take (xs.length-4)).take 3≠[77,73,1]\/(get ((xs.take (xs.length-4)).drop 3)).2.2≠0 then .error 280
      else match (if (get ((xs.take (xs.length-4)).drop 3)).1=0 then none else l[(get ((xs.take (xs.length-4)).drop 3)).1-1]?) with
       | none=>.error 131
       | some s=>parseI s ((xs.take (xs.length-4)).drop 3):=by
     unfold parseA
     rw [if_neg (by simpa using h1),if_neg (by omega),if_neg (by simpa using h3.symm)]
     rfl
    by_cases h4:(xs.take (xs.length-4)).take 3=[77,73,1]
    ·rw [aheadB_yes h4]
     simp only
     by_cases h5:(get ((xs.take (xs.length-4)).drop 3)).2.2=0
     ·rw [needO_yes (b:=true&&decide _) (by simp [h5])]
      rw [if_neg (by simp [h4,h5])] at hp
      by_cases h6:1<=(get ((xs.take (xs.length-4)).drop 3)).1/\(get ((xs.take (xs.length-4)).drop 3)).1<=l.length
      ·rw [needO_yes (b:=decide _&&decide _) (by simp [h6.1,h6.2])]
       have hlt:(get ((xs.take (xs.length-4)).drop 3)).1-1<l.length:=by omega
       refine .inr ⟨rfl,_,h6.1,h6.2,List.getElem?_eq_getElem hlt,?_⟩
       rw [hp,if_neg (by omega),List.getElem?_eq_getElem hlt]
      rw [needO_no (b:=decide _&&decide _) (by rw [<-Bool.not_eq_true,Bool.and_eq_true,decide_eq_true_eq,decide_eq_true_eq];exact h6)]
      refine .inl ⟨131,rfl,by decide,?_⟩
      rw [hp]
      by_cases h7:(get ((xs.take (xs.length-4)).drop 3)).1=0
      ·rw [if_pos h7]
      rw [if_neg h7,List.getElem?_eq_none (by omega)]
     rw [needO_no (b:=true&&decide _) (by simp [h5])]
     refine .inl ⟨280,rfl,by decide,?_⟩
     rw [hp,if_pos (.inr h5)]
    rw [aheadB_no h4]
    simp only
    rw [needO_no (b:=false&&decide _) (by simp)]
    refine .inl ⟨280,rfl,by decide,?_⟩
    rw [hp,if_pos (.inl h4)]
   rw [needO_no (b:=xs.drop (xs.length-4)==sumB (crcS (xs.take (xs.length-4)))) (by simpa using h3)]
   refine .inl ⟨170,rfl,by decide,?_⟩
   unfold parseA
   rw [if_neg (by simpa using h1),if_neg (by omega),if_pos (by simpa using fun h=>h3 h.symm)]
  rw [needO_no (b:=decide (4<=xs.length)) (decide_eq_false h2)]
  refine .inl ⟨3,rfl,by decide,?_⟩
  unfold parseA
  rw [if_neg (by simpa using h1),if_pos (by omega)]
 ·rw [needO_no (b:=chainE l==0) (by simpa using h1)]
  refine .inl ⟨2,rfl,by decide,?_⟩
  unfold parseA
  rw [if_pos h1]
end Go.Proofs.YtjpjalmilfgckaaGreatDoor
namespace Go.Proofs.YtjpjalmilfgckaaGreatDoor
open Go.RowKit
theorem mk_ne (s t:ByteArray) (p q:Int):decide (((s,p):Mk)=(t,q))=(decide (s=t)&&decide (p=q)):=by
 by_cases h1:s=t<;>by_cases h2:p=q<;>simp [h1,h2]
set_option maxHeartbeats 1000000 in
theorem zisame_any (A B:Option Addr) (n c m d:Nat) (x y:Int) (l1 l2:List Cl) (w:World) (h1:Reads w w.heap.size 3 A n (cls l1)) (h2:Reads w w.heap.size 3 B m (cls l2)) (hn:n<=maxLen) :
  Calls Tryz.prog 127 #[.agg #[.slice A n c,.int .i64 x],.agg #[.slice B m d,.int .i64 y]] w fun e w'=>e=.returned (.bool (decide ((l1,x)=(l2,y))))/\Below w.heap.size w w':=by
 have HB1:=Lib.hid (bal (bal (Below.refl w.heap.size w) (.cells #[.slice A n c,.int .i64 x] 26)) (.cells #[.slice B m d,.int .i64 y] 26))
 have P1:=Lib.hid ((Blk.new w 26 #[.slice A n c,.int .i64 x]).alloc (.cells #[.slice B m d,.int .i64 y] 26))
 have P2:=Lib.hid (Blk.new (w.alloc (.cells #[.slice A n c,.int .i64 x] 26)) 26 #[.slice B m d,.int .i64 y])
 have HK:=Lib.hid (rsame_any A B n c m d l1 l2 ((w.alloc (.cells #[.slice A n c,.int .i64 x] 26)).alloc (.cells #[.slice B m d,.int .i64 y] 26)) (h1.on HB1.out) (h2.on HB1.out) hn)
 clear h1 h2 hn
 by_cases hxy:x=y
 ·subst hxy
  have db:(x==x)=true:=by simp
  go_enter Tryz.func127,Tryz.ntmps127
  go_wp2_with fail
  with_reducible refine HK.out.mono ?_
  rintro e w1 ⟨rfl,hb⟩
  have HB:=Lib.hid (bon HB1.out hb)
  clear hb
  go_wp2
  go_ret
  refine ⟨?_,HB.out⟩
  simp
 have db:(x==y)=false:=by simpa using hxy
 have HE:=Lib.hid (show decide ((l1,x)=(l2,y))=false from decide_eq_false (fun h=>hxy (Prod.mk.inj h).2))
 clear hxy
 go_enter Tryz.func127,Tryz.ntmps127
 go_wp2
 go_ret
 exact ⟨by rw [HE.out];rfl,HB1.out⟩
set_option maxHeartbeats 1000000 in
theorem zesame_any (A B:Option Addr) (n c m d:Nat) (l1 l2:List It) (w:World) (h1:ItemsAt w w.heap.size A n l1) (h2:ItemsAt w w.heap.size B m l2) (hn:n<=maxLen) :
  Calls Tryz.prog 93 #[.slice A n c,.slice B m d,.func (.func 127) #[] #[]] w fun e w'=>e=.returned (.bool (decide (l1=l2)))/\Below w.heap.size w w':=by
 have hin:=callFunc_in Tryz.func127 (by kernel_rfl) (by kernel_rfl)
 have H1:=Lib.hid h1
 have H2:=Lib.hid h2
 have Hl1:=Lib.hid h1.len
 have Hl2:=Lib.hid h2.len
 have hn63:n<=9223372036854775807:=by simp only [maxLen] at hn;omega
 clear h1 h2 hn
 by_cases hnm:m=n
 ·subst hnm
  go_enter Tryz.func93,Tryz.ntmps93
  go_wp2
  go_loopw [17] (fun i wr=>∃ j:Nat,j<=m/\i=.int .i64 (j:Int)/\Hid (l1.take j=l2.take j)/\Hid (Below w.heap.size w wr)) (fun i _=>m-(intOf i).toNat)
  case atStart=>exact ⟨0,Nat.zero_le _,rfl,Lib.hid rfl,Lib.hid (Below.refl _ _)⟩
  case round=>
   obtain ⟨j,hj,rfl,Htk,HB⟩:=hrel
   by_cases hlt:j<m
   ·obtain ⟨ad,A',c',it,rfl,hbk,hx,a0,a1,r1,rc1,rc2⟩:=(H1.out.below HB.out).at_ hlt
    obtain ⟨ad',A'',c'',it',rfl,hbk',hx',b0,b1,r2,-,-⟩:=(H2.out.below HB.out).at_ hlt
    have HB1:=Lib.hid (bal (bal HB.out (.cells #[.slice A' it.1.length c',.int .i64 it.2] 26)) (.cells #[.slice A'' it'.1.length c'',.int .i64 it'.2] 26))
    have hbX:=((Below.refl wr.heap.size wr).alloc (Nat.le_refl _) (.cells #[.slice A' it.1.length c',.int .i64 it.2] 26))
    have b0':=((hbX.cell (p:=ad'.add (j*2)) (by rw [block_of_add];exact Nat.lt_of_lt_of_le hbk' HB.out.size))).trans b0
    have b1':=((hbX.cell (p:=⟨(ad'.add (j*2)).block,(ad'.add (j*2)).off+1,none⟩) (by show (ad'.add (j*2)).block<_;rw [block_of_add];exact Nat.lt_of_lt_of_le hbk' HB.out.size))).trans b1
    have HK:=Lib.hid (zisame_any A' A'' it.1.length c' it'.1.length c'' it.2 it'.2 it.1 it'.1 _ ((r1.more HB.out.size).al (.cells #[.slice A' it.1.length c',.int .i64 it.2] 26) |>.al (.cells #[.slice A'' it'.1.length c'',.int .i64 it'.2] 26)) ((r2.more HB.out.size).al (.cells #[.slice A' it.1.length c',.int .i64 it.2] 26) |>.al (.cells #[.slice A'' it'.1.length c'',.int .i64 it'.2] 26)) (Nat.le_trans rc1 rc2))
    have Hx:=Lib.hid hx
    have Hx':=Lib.hid hx'
    have hji:(j:Int)<(m:Int):=by omega
    clear hx hx' hbk hbk' r1 r2 rc1 rc2 hbX b0 b1
    obtain ⟨r,v⟩:=it
    obtain ⟨r',v'⟩:=it'
    simp only at a0 a1 b0' b1' HK HB1
    generalize r.length=rl at *
    generalize r'.length=rl' at *
    go_wp2_with fail
    with_reducible refine HK.out.mono ?_
    rintro e w1 ⟨rfl,hb⟩
    have HB2:=Lib.hid (bon HB1.out hb)
    clear hb a0 a1 b0' b1' HK
    by_cases hc:(r,v)=(r',v')
    ·have Htk2:=Lib.hid (show l1.take (j+1)=l2.take (j+1) by rw [List.take_add_one,List.take_add_one,Hx.out,Hx'.out,Htk.out,hc])
     rw [decide_eq_true hc]
     clear hc
     go_wp2
     go_roundw
     case rel=>exact ⟨j+1,by omega,by go_num,Htk2,HB2⟩
     case measure=>simp [intOf];omega
    have Hne:=Lib.hid (show decide (l1=l2)=false from decide_eq_false (fun h=>hc (by subst h;exact Option.some.inj (Hx.out.symm.trans Hx'.out))))
    rw [decide_eq_false hc]
    clear hc
    go_wp2
    go_ret
    exact ⟨by rw [Hne.out];rfl,HB2.out⟩
   obtain rfl:m=j:=by omega
   have He:=Lib.hid (show decide (l1=l2)=true by
    have:=Htk.out
    rw [List.take_of_length_le (by rw [Hl1.out];exact Nat.le_refl _),List.take_of_length_le (by rw [Hl2.out];exact Nat.le_refl _)] at this
    exact decide_eq_true this)
   go_wp2
   go_ret
   exact ⟨by rw [He.out];rfl,HB.out⟩
 have hne2:((n:Int) != (m:Int))=true:=by simp;omega
 have hne3:(n != m)=true:=by simp;omega
 have Hne:=Lib.hid (show decide (l1=l2)=false from decide_eq_false (fun h=>hnm (by rw [<-Hl1.out,<-Hl2.out,h])))
 go_enter Tryz.func93,Tryz.ntmps93
 go_wp2
 go_ret
 exact ⟨by rw [Hne.out];rfl,Below.refl _ _⟩
theorem zsame_any (A B:Option Addr) (n c m d:Nat) (l1 l2:List It) (w:World) (h1:ItemsAt w w.heap.size A n l1) (h2:ItemsAt w w.heap.size B m l2) (hn:n<=maxLen) :
  Calls Tryz.prog 68 #[.slice A n c,.slice B m d] w fun e w'=>e=.returned (.bool (decide (l1=l2)))/\Below w.heap.size w w':=by
 have HK:=Lib.hid (zesame_any A B n c m d l1 l2 w h1 h2 hn)
 clear h1 h2 hn
 go_enter Tryz.func68,Tryz.ntmps68
 go_wp2_with fail
 with_reducible refine HK.out.mono ?_
 rintro e w1 ⟨rfl,hb⟩
 have HB:=Lib.hid hb
 clear hb
 go_wp2
 go_ret
 exact ⟨rfl,HB.out⟩
set_option maxHeartbeats 1000000 in
theorem meq_any (A B:Option Addr) (n c m d:Nat) (l1 l2:List Mk) (w:World) (h1:Reads w w.heap.size 2 A n (mks l1)) (h2:Reads w w.heap.size 2 B m (mks l2)) (hn:n<=maxLen) :
  Calls Tryz.prog 67 #[.slice A n c,.slice B m d] w fun e w'=>e=.returned (.bool (decide (l1=l2)))/\Below w.heap.size w w':=by
 have H1:=Lib.hid h1
 have H2:=Lib.hid h2
 have Hl1:=Lib.hid (mks_len h1)
 have Hl2:=Lib.hid (mks_len h2)
 have hn63:n<=9223372036854775807:=by simp only [maxLen] at hn;omega
 clear h1 h2 hn
 by_cases hnm:m=n
 ·subst hnm
  go_enter Tryz.func67,Tryz.ntmps67
  go_wp2
  go_loopw [13] (fun i wr=>∃ j:Nat,j<=m/\i=.int .i64 (j:Int)/\Hid (l1.take j=l2.take j)/\Hid (Below w.heap.size w wr)) (fun i _=>m-(intOf i).toNat)
  case atStart=>exact ⟨0,Nat.zero_le _,rfl,Lib.hid rfl,Lib.hid (Below.refl _ _)⟩
  case round=>
   obtain ⟨j,hj,rfl,Htk,HB⟩:=hrel
   by_cases hlt:j<m
   ·have hji:(j:Int)<(m:Int):=by omega
    obtain ⟨ad,x,rfl,hbk,hx,a⟩:=mks_at (H1.out.below HB.out) hlt
    obtain ⟨ad',y,rfl,hbk',hy,b⟩:=mks_at (H2.out.below HB.out) hlt
    have Hx:=Lib.hid hx
    have Hx':=Lib.hid hy
    have L0:=Lib.hid (show ∀ w',Below wr.heap.size wr w'->w'.cell? (ad.add (j*2))=some (.string x.1) from fun w' h=>(h.cell (World.block_lt_of_cell? _ _ a.c0)).trans a.c0)
    have L1:=Lib.hid (show ∀ w',Below wr.heap.size wr w'->w'.cell? ⟨(ad.add (j*2)).block,(ad.add (j*2)).off+1,none⟩=some (.int .i64 x.2) from fun w' h=>(h.cell (World.block_lt_of_cell? _ _ a.c1)).trans a.c1)
    have M0:=Lib.hid (show ∀ w',Below wr.heap.size wr w'->w'.cell? (ad'.add (j*2))=some (.string y.1) from fun w' h=>(h.cell (World.block_lt_of_cell? _ _ b.c0)).trans b.c0)
    have M1:=Lib.hid (show ∀ w',Below wr.heap.size wr w'->w'.cell? ⟨(ad'.add (j*2)).block,(ad'.add (j*2)).off+1,none⟩=some (.int .i64 y.2) from fun w' h=>(h.cell (World.block_lt_of_cell? _ _ b.c1)).trans b.c1)
    clear hx hy hbk hbk' a b
    obtain ⟨s,p⟩:=x
    obtain ⟨t,q⟩:=y
    simp only at L0 L1 M0 M1
    have hE:=mk_ne s t p q
    by_cases hc:((s,p):Mk)=(t,q)
    ·have Htk2:=Lib.hid (show l1.take (j+1)=l2.take (j+1) by rw [List.take_add_one,List.take_add_one,Hx.out,Hx'.out,Htk.out,hc])
     cases hc
     go_wp2
     have hS:Below wr.heap.size wr wr.drew:=(Below.refl _ _).drew
     refine hR (fun w'=>Below wr.heap.size wr w') [ff 0,ff 1,ff 2,ff 3,ff 4,ff 5,ff 6,ff 7,ff 8] ?_
     iterate 3
      refine hP hS ?_
     refine hP2 hS L0.out L1.out ?_
     iterate 3
      refine hP hS ?_
     refine hP2 hS M0.out M1.out ?_
     refine hP hS ?_
     refine held_end ?_
     have HB:=Lib.hid (bon HB.out hS)
     clear hS
     go_wp2
     go_roundw
     case rel=>exact ⟨j+1,by omega,by go_num,Htk2,HB⟩
     case measure=>simp [intOf];omega
    have Hne:=Lib.hid (show decide (l1=l2)=false from decide_eq_false (fun h=>hc (by subst h;exact Option.some.inj (Hx.out.symm.trans Hx'.out))))
    have Hc:=Lib.hid hc
    clear hc hE
    by_cases hst:s=t
    ·subst hst
     have hpq:¬p=q:=fun h=>Hc.out (by rw [h])
     go_wp2
     have hS:Below wr.heap.size wr wr.drew:=(Below.refl _ _).drew
     refine hR (fun w'=>Below wr.heap.size wr w') [ff 0,ff 1,ff 2,ff 3,ff 4,ff 5,ff 6,ff 7,ff 8] ?_
     iterate 3
      refine hP hS ?_
     refine hP2 hS L0.out L1.out ?_
     iterate 3
      refine hP hS ?_
     refine hP2 hS M0.out M1.out ?_
     refine hP hS ?_
     refine held_end ?_
     go_wp2
     go_ret
     exact ⟨by rw [Hne.out];rfl,bon HB.out hS⟩
    have hst2:¬s.toList=t.toList:=fun h=>hst (by
     rw [Lib.toList_data,Lib.toList_data] at h
     exact ByteArray.ext (Array.ext' h))
    go_wp2
    have hS:Below wr.heap.size wr wr.drew:=(Below.refl _ _).drew
    refine hR (fun w'=>Below wr.heap.size wr w') [ff 0,ff 1,ff 2,ff 3,ff 4,ff 5,ff 6,ff 7,ff 8] ?_
    iterate 3
     refine hP hS ?_
    refine hP2 hS L0.out L1.out ?_
    iterate 3
     refine hP hS ?_
    refine hP2 hS M0.out M1.out ?_
    refine hP hS ?_
    refine held_end ?_
    go_wp2
    go_ret
    exact ⟨by rw [Hne.out];rfl,bon HB.out hS⟩
   obtain rfl:m=j:=by omega
   have He:=Lib.hid (show decide (l1=l2)=true by
    have:=Htk.out
    rw [List.take_of_length_le (by rw [Hl1.out];exact Nat.le_refl _),List.take_of_length_le (by rw [Hl2.out];exact Nat.le_refl _)] at this
    exact decide_eq_true this)
   go_wp2
   go_ret
   exact ⟨by rw [He.out];rfl,HB.out⟩
 have hne2:((n:Int) != (m:Int))=true:=by simp;omega
 have hne3:(n != m)=true:=by simp;omega
 have Hne:=Lib.hid (show decide (l1=l2)=false from decide_eq_false (fun h=>hnm (by rw [<-Hl1.out,<-Hl2.out,h])))
 go_enter Tryz.func67,Tryz.ntmps67
 go_wp2
 go_ret
 exact ⟨by rw [Hne.out];rfl,Below.refl _ _⟩
end Go.Proofs.YtjpjalmilfgckaaGreatDoor
namespace Go.Proofs.YtjpjalmilfgckaaGreatDoor
open Go.RowKit
set_option maxHeartbeats 1000000 in
theorem ieq_any (A B:Option Addr) (n c m d:Nat) (l1 l2:List Int) (w:World) (h1:Reads w w.heap.size 1 A n (ins l1)) (h2:Reads w w.heap.size 1 B m (ins l2)) (hn:n<=maxLen) :
  Calls Tryz.prog 138 #[.slice A n c,.slice B m d] w fun e w'=>e=.returned (.bool (decide (l1=l2)))/\Below w.heap.size w w':=by
 have H1:=Lib.hid h1
 have H2:=Lib.hid h2
 have Hl1:=Lib.hid (ins_len h1)
 have Hl2:=Lib.hid (ins_len h2)
 have hn63:n<=9223372036854775807:=by simp only [maxLen] at hn;omega
 clear h1 h2 hn
 by_cases hnm:m=n
 ·subst hnm
  go_enter Tryz.func138,Tryz.ntmps138
  go_wp2
  go_loopw [13] (fun i wr=>∃ j:Nat,j<=m/\i=.int .i64 (j:Int)/\Hid (l1.take j=l2.take j)/\Hid (Below w.heap.size w wr)) (fun i _=>m-(intOf i).toNat)
  case atStart=>exact ⟨0,Nat.zero_le _,rfl,Lib.hid rfl,Lib.hid (Below.refl _ _)⟩
  case round=>
   obtain ⟨j,hj,rfl,Htk,HB⟩:=hrel
   by_cases hlt:j<m
   ·have hji:(j:Int)<(m:Int):=by omega
    obtain ⟨ad,x,rfl,hbk,hx,a⟩:=ins_at (H1.out.below HB.out) hlt
    obtain ⟨ad',y,rfl,hbk',hy,b⟩:=ins_at (H2.out.below HB.out) hlt
    have Hx:=Lib.hid hx
    have Hx':=Lib.hid hy
    have L0:=Lib.hid (show ∀ w',Below wr.heap.size wr w'->w'.cell? (ad.add j)=some (.int .i64 x) from fun w' h=>(h.cell (World.block_lt_of_cell? _ _ a)).trans a)
    have M0:=Lib.hid (show ∀ w',Below wr.heap.size wr w'->w'.cell? (ad'.add j)=some (.int .i64 y) from fun w' h=>(h.cell (World.block_lt_of_cell? _ _ b)).trans b)
    clear hx hy hbk hbk' a b
    by_cases hc:x=y
    ·have Htk2:=Lib.hid (show l1.take (j+1)=l2.take (j+1) by rw [List.take_add_one,List.take_add_one,Hx.out,Hx'.out,Htk.out,hc])
     have e1:(x != y)=false:=by simpa using hc
     clear hc
     go_wp2
     have hS:Below wr.heap.size wr wr.drew:=(Below.refl _ _).drew
     refine hR (fun w'=>Below wr.heap.size wr w') [ff 0,ff 1,ff 2,ff 3,ff 4,ff 5,ff 6,ff 7,ff 8] ?_
     iterate 3
      refine hP hS ?_
     refine hP1 hS L0.out ?_
     iterate 3
      refine hP hS ?_
     refine hP1 hS M0.out ?_
     refine hP hS ?_
     refine held_end ?_
     have HB:=Lib.hid (bon HB.out hS)
     clear hS
     go_wp2
     go_roundw
     case rel=>exact ⟨j+1,by omega,by go_num,Htk2,HB⟩
     case measure=>simp [intOf];omega
    have Hne:=Lib.hid (show decide (l1=l2)=false from decide_eq_false (fun h=>hc (by subst h;exact Option.some.inj (Hx.out.symm.trans Hx'.out))))
    have e1:(x != y)=true:=by simpa using hc
    clear hc
    go_wp2
    have hS:Below wr.heap.size wr wr.drew:=(Below.refl _ _).drew
    refine hR (fun w'=>Below wr.heap.size wr w') [ff 0,ff 1,ff 2,ff 3,ff 4,ff 5,ff 6,ff 7,ff 8] ?_
    iterate 3
     refine hP hS ?_
    refine hP1 hS L0.out ?_
    iterate 3
     refine hP hS ?_
    refine hP1 hS M0.out ?_
    refine hP hS ?_
    refine held_end ?_
    go_wp2
    go_ret
    exact ⟨by rw [Hne.out];rfl,bon HB.out hS⟩
   obtain rfl:m=j:=by omega
   have He:=Lib.hid (show decide (l1=l2)=true by
    have:=Htk.out
    rw [List.take_of_length_le (by rw [Hl1.out];exact Nat.le_refl _),List.take_of_length_le (by rw [Hl2.out];exact Nat.le_refl _)] at this
    exact decide_eq_true this)
   go_wp2
   go_ret
   exact ⟨by rw [He.out];rfl,HB.out⟩
 have hne2:((n:Int) != (m:Int))=true:=by simp;omega
 have hne3:(n != m)=true:=by simp;omega
 have Hne:=Lib.hid (show decide (l1=l2)=false from decide_eq_false (fun h=>hnm (by rw [<-Hl1.out,<-Hl2.out,h])))
 go_enter Tryz.func138,Tryz.ntmps138
 go_wp2
 go_ret
 exact ⟨by rw [Hne.out];rfl,Below.refl _ _⟩
end Go.Proofs.YtjpjalmilfgckaaGreatDoor
namespace Go.Proofs.YtjpjalmilfgckaaGreatDoor
open Go.RowKit
def idB (id:Int) (c:Co):Bool:=decide (c.1=id)
theorem cofind_at {cs:List Co} {id:Int} {k:Nat} {c:Co} (hc:cs[k]? = some c) (h:c.1=id) (hp:∀ (j:Nat) (d:Co),j<k->cs[j]? = some d->d.1≠id):cs.find? (idB id)=some c:=by
 obtain ⟨hk,rfl⟩:=List.getElem?_eq_some_iff.1 hc
 rw [List.find?_eq_some_iff_getElem]
 refine ⟨by simp [idB,h],k,hk,rfl,fun j hj=>?_⟩
 have:=hp j _ hj (List.getElem?_eq_getElem (by omega))
 simp [idB,this]
theorem cofind_no {cs:List Co} {id:Int} (hp:∀ (j:Nat) (d:Co),cs[j]? = some d->d.1≠id):cs.find? (idB id)=none:=by
 rw [List.find?_eq_none]
 intro d hd
 obtain ⟨j,hj⟩:=List.getElem?_of_mem hd
 have:=hp j d hj
 simp [idB,this]
theorem pl1_any (g:Nat) (id i:Int) (nm:ByteArray) (k:Int) (nl u:Bool) (x:Int) (s:ByteArray) (w:World) (hg:w.cell? ⟨g,0,none⟩=some (.int .i64 id)) (hgl:g<w.heap.size) :
  Calls Tryz.prog 187 #[.agg #[.int .i64 i,.string nm,.int .i64 k,.bool nl,.bool u,.int .i64 x,.string s],.pointer (some ⟨g,0,none⟩)] w fun e w'=>e=.returned (.bool (i==id))/\Below w.heap.size w w':=by
 have B1:=Lib.hid (Blk.new w 45 #[.int .i64 i,.string nm,.int .i64 k,.bool nl,.bool u,.int .i64 x,.string s])
 have c0:=B1.out.cell 0
 have hb:=(Below.refl w.heap.size w).alloc (Nat.le_refl _) (.cells #[.int .i64 i,.string nm,.int .i64 k,.bool nl,.bool u,.int .i64 x,.string s] 45)
 have hg:=(hb.cell (p:=⟨g,0,none⟩) hgl).trans hg
 have HB:=Lib.hid hb
 clear hb hgl
 go_enter Tryz.func187,Tryz.ntmps187
 go_wp2
 go_ret
 exact ⟨rfl,HB.out⟩
set_option maxHeartbeats 1000000 in
theorem plidx_any (g:Nat) (id:Int) (A:Option Addr) (n c:Nat) (cs:List Co) (w:World) (hg:w.cell? ⟨g,0,none⟩=some (.int .i64 id)) (hgl:g<w.heap.size) (hr:Reads w w.heap.size 7 A n (cos cs)) (hn:n<=maxLen) :
  Calls Tryz.prog 193 #[.slice A n c,.func (.func 187) #[] #[.pointer (some ⟨g,0,none⟩)]] w fun e w'=>((∃ (k:Nat) (co:Co),e=.returned (.int .i64 (k:Int))/\cs[k]? = some co/\cs.find? (idB id)=some co)\/(e=.returned (.int .i64 (-1))/\cs.find? (idB id)=none))/\Below w.heap.size w w':=by
 have Hr:=Lib.hid hr
 have HG:=Lib.hid hg
 have Hl:=Lib.hid (cos_len hr)
 have hn63:n<=9223372036854775807:=by simp only [maxLen] at hn;omega
 have hin:=callFunc_in Tryz.func187 (by kernel_rfl) (by kernel_rfl)
 clear hr hn hg
 go_enter Tryz.func193,Tryz.ntmps193
 go_wp2
 go_loopw [8] (fun i wr=>∃ k:Nat,k<=n/\i=.int .i64 (k:Int)/\Hid (∀ j d,j<k->cs[j]? = some d->d.1≠id)/\Hid (Below w.heap.size w wr)) (fun i _=>n-(intOf i).toNat)
 case atStart=>exact ⟨0,Nat.zero_le _,rfl,Lib.hid (fun j c h=>by omega),Lib.hid (Below.refl _ _)⟩
 case round=>
  obtain ⟨k,hk,rfl,HN,HB⟩:=hrel
  by_cases hlt:k<n
  ·obtain ⟨ad,co,rfl,hbk,hco,hat⟩:=cos_at (Hr.out.below HB.out) hlt
   have h0:=hat.c0
   have h1:=hat.c1
   have h2:=hat.c2
   have h3:=hat.c3
   have h4:=hat.c4
   have h5:=hat.c5
   have h6:=hat.c6
   have Hco:=Lib.hid hco
   have hki:(k:Int)<(n:Int):=by omega
   clear hco hat
   go_wp2_with fail
   with_reducible refine (pl1_any g id co.1 co.2.1 co.2.2.1 co.2.2.2.1 co.2.2.2.2.1 co.2.2.2.2.2.1 co.2.2.2.2.2.2 _ ((HB.out.cell (p:=⟨g,0,none⟩) hgl).trans HG.out) (Nat.lt_of_lt_of_le hgl HB.out.size)).mono ?_
   rintro e w1 ⟨rfl,hb1⟩
   have HB2:=Lib.hid (bon HB.out hb1)
   clear hb1 h0 h1 h2 h3 h4 h5 h6 hbk
   by_cases hm:co.1=id
   ·have HF:=Lib.hid (cofind_at Hco.out hm HN.out)
    rw [show (co.1==id)=true by simpa using hm]
    clear hm
    go_wp2
    go_ret
    exact ⟨.inl ⟨k,co,rfl,Hco.out,HF.out⟩,HB2.out⟩
   have HN2:=Lib.hid (show ∀ j d,j<k+1->cs[j]? = some d->d.1≠id from fun j d hj hd=>by
    rcases Nat.lt_or_ge j k with h | h
    ·exact HN.out j d h hd
    obtain rfl:j=k:=by omega
    rw [Hco.out] at hd
    cases hd
    exact hm)
   rw [show (co.1==id)=false by simpa using hm]
   clear hm
   go_wp2
   go_roundw
   case rel=>exact ⟨k+1,by omega,by go_num,HN2,HB2⟩
   case measure=>simp [intOf];omega
  obtain rfl:k=n:=by omega
  have HF:=Lib.hid (cofind_no (cs:=cs) (id:=id) (fun j d hd=>HN.out j d (by have:=(List.getElem?_eq_some_iff.1 hd).1;rw [Hl.out] at this;exact this) hd))
  go_wp2
  go_ret
  exact ⟨.inr ⟨rfl,HF.out⟩,HB.out⟩
def PlaceP (id:Int) (cs:List Co) (w:World) (e:Ending) (w':World):Prop:=
 ((∃ (k:Nat) (co:Co),e=.returned (.tuple #[.int .i64 (k:Int),.bool true])/\cs[k]? = some co/\cs.find? (idB id)=some co)\/(e=.returned (.tuple #[.int .i64 0,.bool false])/\cs.find? (idB id)=none))/\Below w.heap.size w w'
theorem schwhere_any (g:Nat) (id:Int) (CA:Option Addr) (cn cc:Nat) (KA:Option Addr) (kn kc:Nat) (s:Sc) (w:World) (hg:w.cell? ⟨g,0,none⟩=some (.int .i64 id)) (hgl:g<w.heap.size) (h:ScAt w CA cn KA kn s) (hcn:cn<=1000000) :
  Calls Tryz.prog 186 #[.agg #[.slice CA cn cc,.slice KA kn kc],.func (.func 187) #[] #[.pointer (some ⟨g,0,none⟩)]] w (PlaceP id s.1 w):=by
 have hb:=bal (Below.refl w.heap.size w) (.cells #[.slice CA cn cc,.slice KA kn kc] 48)
 have BX:=Lib.hid (Blk.new w 48 #[.slice CA cn cc,.slice KA kn kc])
 have HK:=Lib.hid (plidx_any g id CA cn cc s.1 (w.alloc (.cells #[.slice CA cn cc,.slice KA kn kc] 48)) ((hb.cell (p:=⟨g,0,none⟩) hgl).trans hg) (Nat.lt_of_lt_of_le hgl hb.size) (h.on hb).cols (by simp only [maxLen];omega))
 have HB:=Lib.hid hb
 have c0:=BX.out.cell 0
 clear hg hgl h hb
 go_enter Tryz.func186,Tryz.ntmps186
 go_wp2_with fail
 with_reducible refine HK.out.mono ?_
 rintro e w1 ⟨⟨k,co,rfl,h1,h2⟩ | ⟨rfl,h2⟩,hb1⟩
 ·have HB:=Lib.hid (bon HB.out hb1)
  have H1:=Lib.hid h1
  have H2:=Lib.hid h2
  have hk0:decide ((0:Int)<=(k:Int))=true:=by simp
  have hmx:max (k:Int) 0=(k:Int):=by omega
  clear hb1 h1 h2 c0
  go_wp2
  go_ret2
  exact ⟨.inl ⟨k,co,rfl,H1.out,H2.out⟩,HB.out⟩
 have HB:=Lib.hid (bon HB.out hb1)
 have H2:=Lib.hid h2
 clear hb1 h2 c0
 go_wp2
 go_ret2
 exact ⟨.inr ⟨rfl,H2.out⟩,HB.out⟩
theorem schplace_any (id:Int) (CA:Option Addr) (cn cc:Nat) (KA:Option Addr) (kn kc:Nat) (s:Sc) (w:World) (h:ScAt w CA cn KA kn s) (hcn:cn<=1000000) :
  Calls Tryz.prog 137 #[.agg #[.slice CA cn cc,.slice KA kn kc],.int .i64 id] w (PlaceP id s.1 w):=by
 obtain ⟨W,hW1⟩:∃ W,(w.alloc (.cells #[.slice CA cn cc,.slice KA kn kc] 48)).alloc (.cells #[.int .i64 id] 3)=W:=⟨_,rfl⟩
 have HB:=Lib.hid (show Below w.heap.size w W by rw [<-hW1];exact bal (bal (Below.refl _ _) _) _)
 have BS:=Lib.hid (show Blk W w.heap.size 48 #[.slice CA cn cc,.slice KA kn kc] by rw [<-hW1];exact (Blk.new w _ _).alloc _)
 have BT:=Lib.hid (show Blk W (w.heap.size+1) 3 #[.int .i64 id] by rw [<-hW1];exact Blk.new' _ _ _ _ (by simp))
 have HK:=Lib.hid (schwhere_any (w.heap.size+1) id CA cn cc KA kn kc s W (BT.out.cell 0) BT.out.lt (h.on HB.out) hcn)
 have s0:=BS.out.cell 0
 have s1:=BS.out.cell 1
 clear h BS BT
 go_enter Tryz.func137,Tryz.ntmps137
 go_wp2_with fail
 try rw [hW1]
 clear hW1 s0 s1
 with_reducible refine HK.out.mono ?_
 rintro e w1 ⟨⟨k,co,rfl,h1,h2⟩ | ⟨rfl,h2⟩,hb1⟩
 ·have HB:=Lib.hid (bon HB.out hb1)
  have H1:=Lib.hid h1
  have H2:=Lib.hid h2
  clear hb1 h1 h2
  go_wp2
  go_ret2
  exact ⟨.inl ⟨k,co,rfl,H1.out,H2.out⟩,HB.out⟩
 have HB:=Lib.hid (bon HB.out hb1)
 have H2:=Lib.hid h2
 clear hb1 h2
 go_wp2
 go_ret2
 exact ⟨.inr ⟨rfl,H2.out⟩,HB.out⟩
end Go.Proofs.YtjpjalmilfgckaaGreatDoor
namespace Go.Proofs.YtjpjalmilfgckaaGreatDoor
open Go.RowKit
theorem chainF_step {l:List Sc} {i:Nat} {s:Sc} (ab:Int) (h:l[i]? = some s):chainF ab (prevL l i) (l.drop i)=((prevL l i).all (fun q=>folB q s ab)&&chainF (max ab (greatL s)) (prevL l (i+1)) (l.drop (i+1))):=by
 have hp:prevL l (i+1)=some s:=by unfold prevL;rw [if_neg (by omega)];exact h
 rw [drop_at h,chainF,hp]
theorem chainF_end {l:List Sc} {i:Nat} (ab:Int) (h:l.length<=i):chainF ab (prevL l i) (l.drop i)=true:=by
 rw [List.drop_of_length_le h];rfl
theorem chainF_zero (l:List Sc):chainF 0 none l=chainF 0 (prevL l 0) (l.drop 0):=rfl
theorem folF_some {a:Sc} {ab:Int} {d c:Co} (h:a.1.find? (idB d.1)=some c):folF a ab d=staysB c d:=by
 unfold folF
 rw [show a.1.find? (fun c=>decide (c.1=d.1))=some c from h]
theorem folF_none {a:Sc} {ab:Int} {d:Co} (h:a.1.find? (idB d.1)=none):folF a ab d=decide (ab<d.1):=by
 unfold folF
 rw [show a.1.find? (fun c=>decide (c.1=d.1))=none from h]
theorem folB_no {a b:Sc} {ab:Int} {pre:List Co} {d:Co} (hp:pre++[d] <+: b.1) (h:folF a ab d=false):folB a b ab=false:=by
 have h1:b.1.all (folF a ab)=false:=by
  rw [List.all_eq_false]
  exact ⟨d,hp.subset (by simp),by simp [h]⟩
 unfold folB
 rw [h1]
 rfl
theorem folB_all {a b:Sc} {ab:Int} (h:b.1.all (folF a ab)=true):folB a b ab=decide (keysL a=keysL b):=by
 unfold folB
 rw [h,Bool.true_and]
def lastI (pre:List Co):Int:=match pre.getLast? with | some c=>c.1 | none=>0
theorem lastI_snoc (pre:List Co) (c:Co):lastI (pre++[c])=c.1:=by simp [lastI]
end Go.Proofs.YtjpjalmilfgckaaGreatDoor
namespace Go.Proofs.YtjpjalmilfgckaaGreatDoor
open Go.RowKit
structure Mid (base B:Nat) (w w':World):Prop where
 os:w'.os=w.os
 tape:w'.tape=w.tape
 output:w'.output=w.output
 size:w.heap.size<=w'.heap.size
 block:∀ k,k<w.heap.size->(k<base\/B<=k)->w'.heap[k]? = w.heap[k]?
section
variable {base B:Nat} {w w' w'':World}
theorem Mid.refl (base B:Nat) (w:World):Mid base B w w:=⟨rfl,rfl,rfl,Nat.le_refl _,fun _ _ _=>rfl⟩
theorem Mid.trans (h:Mid base B w w') (k:Mid base B w' w''):Mid base B w w'':=
 ⟨k.os.trans h.os,k.tape.trans h.tape,k.output.trans h.output,Nat.le_trans h.size k.size,fun i hi hj=>(k.block i (Nat.lt_of_lt_of_le hi h.size) hj).trans (h.block i hi hj)⟩
theorem Mid.of_below (h:Below w.heap.size w w'):Mid base B w w':=⟨h.os,h.tape,h.output,h.size,fun k hk _=>h.block k hk⟩
theorem Mid.below (h:Mid base B w w') (hb:base<=w.heap.size):Below base w w':=⟨h.os,h.tape,h.output,h.size,fun k hk=>h.block k (Nat.lt_of_lt_of_le hk hb) (.inl hk)⟩
theorem Mid.mono {base2 B2:Nat} (h:Mid base B w w') (h1:base2<=base) (h2:B<=B2):Mid base2 B2 w w':=
 ⟨h.os,h.tape,h.output,h.size,fun k hk hj=>h.block k hk (hj.imp (fun x=>Nat.lt_of_lt_of_le x h1) (fun x=>Nat.le_trans h2 x))⟩
theorem Mid.drew (h:Mid base B w w'):Mid base B w w'.drew:=⟨h.os,h.tape,h.output,h.size,h.block⟩
theorem Mid.alloc (h:Mid base B w w') (o:Obj):Mid base B w (w'.alloc o):=h.trans (Mid.of_below ((Below.refl _ _).alloc (Nat.le_refl _) o))
theorem Mid.setCell (h:Mid base B w w') {p:Addr} (h1:base<=p.block) (h2:p.block<B\/w.heap.size<=p.block) (u:Value):Mid base B w (w'.setCell p u):=
 ⟨h.os,h.tape,h.output,by simpa [World.setCell] using h.size,fun k hk hj=>(Below.heap_setCell _ _ _ _ (by omega)).trans (h.block k hk hj)⟩
theorem Mid.put (base B:Nat) (w:World) (l:Nat) (o:Obj) (h1:base<=l) (h2:l<B):Mid base B w (w.putObj l o):=
 have g:=grownBy_putObj' w l o
 ⟨g.os,g.tape,g.output,g.size,fun k hk hj=>g.block k hk (fun e=>by cases e;omega)⟩
theorem Mid.cell (h:Mid base B w w') {p:Addr} (hp:p.block<w.heap.size) (hj:p.block<base\/B<=p.block):w'.cell? p=w.cell? p:=World.cell?_of_block (w:=w) (h.block p.block hp hj)
end
variable {n:Nat} {P:Program}
def SeqB {α:Type} (n:Nat) (P:Program) (g:Nat) (lb:Array Value) (encs:α->Array Value) (base:Nat) (S Sp:List α->Prop) (w:World):Prop:=
 ∀ (l:Nat) (J Jx:List α->World->Prop) (W:World),Below w.heap.size w W->(∀ s A A',J s A->Below W.heap.size A A'->J s A')->(∀ s A A',Jx s A->Below W.heap.size A A'->Jx s A') ->
  (∀ pre x W1, J pre W1 → YieldAt Fence.wide (n - 1) P l (encs x) W1 fun e W' =>
   (e=.returned (.bool true)/\J (pre++[x]) W'/\Mid base W.heap.size W1 W')\/(e=.returned (.bool false)/\Jx (pre++[x]) W'/\Mid base W.heap.size W1 W')) ->
  J [] W ->
  CallsIn Fence.wide n P g (#[.func (.yield l) #[] #[]]++lb) W fun e W'=>(∃ v,e=.returned v)/\((∃ xs,S xs/\J xs W')\/(∃ pre,Sp pre/\Jx pre W'))
def postB {α:Type} (base B:Nat) (I:List α->World->Prop) (Ix:Code->List α->World->Prop) (xs:List α) (W:World):Exit->Act->World->Prop
 | .normal,_,W'=>Mid base B W W'/\I xs W'
 | .ret,_,W'=>Mid base B W W'/\Ix .ret xs W'
 | .exit id,_,W'=>Mid base B W W'/\Ix (.exit id) xs W'
 | .goto t,_,W'=>Mid base B W W'/\Ix (.goto t) xs W'
 | .panic _,_,_=>False
 | .outgrown,_,_=>False
theorem put_below (w:World) (l:Nat) (o:Obj) (B:Nat) (hB:B<=w.heap.size) (hl:B<=l):Below B w (w.putObj l o):=
 (Below.refl B w).grown (grownBy_putObj' w l o) hB (fun k e=>by cases e;exact hl)
end Go.Proofs.YtjpjalmilfgckaaGreatDoor
namespace Go.Proofs.YtjpjalmilfgckaaGreatDoor
open Go.RowKit
variable {n:Nat} {P:Program}
theorem wpIn_rangeFunc_C {α:Type} {g:Operand} {ps:Array Tmp} {assign body:Code} {Q:Exit->Act->World->Prop} {a:Act} {w:World}
  (h1:1<=n) {gf:Nat} {lb:Array Value} (hg:a.eval g=.func (.func gf) #[] lb) (eg:∀ args w,(callFunc gf args).run P w=.ok (.enter gf args) w)
  {encs:α->Array Value} {S Sp:List α->Prop} {base:Nat} {w0:World} (hseq:SeqB (n-1) P gf lb encs base S Sp w0) (hb0:Below w0.heap.size w0 w) (hps:∀ x,(encs x).size=ps.size) (hbase:base<=w.heap.size)
  (I:List α->World->Prop) (Ix:Code->List α->World->Prop) (hI:∀ s A A',I s A->Below w.heap.size A A'->I s A') (hIx:∀ c s A A',Ix c s A->Below w.heap.size A A'->Ix c s A') (h0:I [] w) (R:List α->α->Act->World->Prop)
  (hR:∀ pre x a1 W1 o,R pre x a1 W1->w.heap.size+2<=W1.heap.size->R pre x a1 (W1.putObj (w.heap.size+1) o))
  (hassign : ∀ (l : Nat) (pre : List α) (x : α) (W : World) (K : Act → World → Prop), I pre W → w.heap.size + 2 ≤ W.heap.size → (∀ a1 W1, Mid base w.heap.size W W1 → R pre x a1 W1 → K a1 W1) →
   assign.wpIn (Fence.wide.inRound l) (n-1-1) P (Exit.then K (fun _ _ _=>False)) { tmps:=(ps.zip (encs x)).foldl (fun t (p,v)=>t.setIfInBounds p v) a.tmps,defers:=[] } W)
  (hbody:∀ (l:Nat) (pre:List α) (x:α) (a1:Act) (W:World),R pre x a1 W->w.heap.size<=W.heap.size->body.wpIn (Fence.wide.inRound l) (n-1-1) P (postB base w.heap.size I Ix (pre++[x]) W) a1 W)
  (hdone:∀ (D:Nat) (xs:List α) (W:World),w.heap.size<=D->S xs->I xs W->W.heap[D]? = some (.deferred (some []))->Q .normal { a with defers:={ target:=.collected D,args:=#[] }::a.defers } W)
  (hstop:∀ (D:Nat) (c:Code) (pre:List α) (W:World),w.heap.size<=D->Sp pre->Ix c pre W->W.heap[D]? = some (.deferred (some []))->c.wpIn Fence.wide n P Q { a with defers:={ target:=.collected D,args:=#[] }::a.defers } W) :
  (Code.rangeFunc g ps assign body).wpIn Fence.wide n P Q a w:=by
 refine wpIn_rangeFunc ?_
 intro fn hfn
 rw [show Fence.wide.round=none from rfl]
 obtain ⟨rec,hrec⟩:∃ rec:LoopState->Option Code->Loop,rec=fun st pe=>{ state:=st,pending:=pe,fn,tmps:=a.tmps,params:=ps,assign,body,defers:=w.heap.size }:=⟨_,rfl⟩
 obtain ⟨W1,hW1⟩:∃ W1,(w.alloc (.deferred (some []))).alloc (.loop (rec .ready none))=W1:=⟨_,rfl⟩
 have hL1:W1.heap[w.heap.size+1]? = some (.loop (rec .ready none)):=by
  rw [<-hW1];have:=World.alloc_heap_new (w.alloc (.deferred (some []))) (.loop (rec .ready none));rwa [World.size_alloc] at this
 have hK1:W1.heap[w.heap.size]? = some (.deferred (some [])):=by
  rw [<-hW1];exact (Below.heap_alloc _ _ _ (by simp)).trans (World.alloc_heap_new w _)
 have hwW:Below w.heap.size w W1:=by rw [<-hW1];exact ((Below.refl _ w).alloc (Nat.le_refl _) _).alloc (by simp) _
 have hI1:I [] W1:=hI _ _ _ h0 hwW
 have hb1:Below w0.heap.size w0 W1:=hb0.trans (hwW.mono hb0.size)
 have hs1:W1.heap.size=w.heap.size+2:=by rw [<-hW1];simp
 refine ⟨w.heap.size+1,[{ target:=.collected w.heap.size,args:=#[] }],W1,{ target:=.fn (.func gf) lb,args:=#[.func (.yield (w.heap.size+1)) #[] #[]] },W1,gf,
  #[.func (.yield (w.heap.size+1)) #[] #[]]++lb,W1,?_,?_,?_,?_,fun _=>h1,?_⟩
 ·rw [<-hW1,hrec];exact run_enterLoop_outer _ _ _ _ _
 ·simp only [resolve,hg]
  simp [go_sem]
 ·intro f' hf';exact trivial
 ·simp [invoke,go_sem,eg]
 refine (hseq (w.heap.size+1)
  (fun pre W=>I pre W/\W.heap[w.heap.size+1]? = some (.loop (rec .ready none))/\W.heap[w.heap.size]? = some (.deferred (some [])))
  (fun pre W=>∃ c,Ix c pre W/\W.heap[w.heap.size+1]? = some (.loop (rec .done (some c)))/\W.heap[w.heap.size]? = some (.deferred (some [])))
  W1 hb1
  (fun s A A' hs hb=>⟨hI s A A' hs.1 (hb.mono (by omega)),(hb.block _ (by omega)).trans hs.2.1,(hb.block _ (by omega)).trans hs.2.2⟩)
  (fun s A A' hs hb => by
   obtain ⟨c,hc,hl,hk⟩:=hs
   exact ⟨c,hIx c s A A' hc (hb.mono (by omega)),(hb.block _ (by omega)).trans hl,(hb.block _ (by omega)).trans hk⟩)
  ?_ ⟨hI1,hL1,hK1⟩).mono ?_
 ·rintro pre x W ⟨hi,hl,hk⟩
  have hlt:w.heap.size+1<W.heap.size:=(Array.getElem?_eq_some_iff.1 hl).1
  have hy:=run_yield (P:=P) (args:=encs x) hl (by rw [hrec];exact hps x)
  rw [hrec] at hy
  refine ⟨fn,_,assign,body,hy,roundIn_of_wpIn hfn (hassign _ pre x W _ hi (by omega) fun a4 W4 hm4 hr4=>⟨_,run_beginRound ((hm4.block (w.heap.size+1) hlt (.inr (by omega))).trans hl) (by rw [hrec]),?_⟩)⟩
  have hz4:=hm4.size
  have hl4:=(hm4.block (w.heap.size+1) hlt (.inr (by omega))).trans hl
  have hk4:=(hm4.block w.heap.size (by omega) (.inr (Nat.le_refl _))).trans hk
  have hl2:(W4.putObj (w.heap.size+1) (.loop { rec .ready none with state:=.busy })).heap[w.heap.size+1]? = some (.loop { rec .ready none with state:=.busy }):=World.putObj_heap_same (by omega)
  have hk2:(W4.putObj (w.heap.size+1) (.loop { rec .ready none with state:=.busy })).heap[w.heap.size]? = some (.deferred (some [])):=(World.putObj_heap_other (by omega)).trans hk4
  have hw2:Mid base W1.heap.size W (W4.putObj (w.heap.size+1) (.loop { rec .ready none with state:=.busy })):=(hm4.mono (Nat.le_refl _) (by omega)).trans (Mid.put _ _ _ _ _ (by omega) (by omega))
  have hz2:=hw2.size
  have hr5:R pre x a4 (W4.putObj (w.heap.size+1) (.loop { rec .ready none with state:=.busy })):=hR _ _ _ _ _ hr4 (by omega)
  refine wpIn_mono (hbody _ pre x a4 _ hr5 (Nat.le_trans (show w.heap.size<=W.heap.size by omega) hz2)) ?_
  have fin:∀ (jump:Option Code) (W3:World),Mid base w.heap.size (W4.putObj (w.heap.size+1) (.loop { rec .ready none with state:=.busy })) W3 ->
    (Instr.endRound (w.heap.size+1) jump).run P W3=.ok (.bool jump.isNone) (W3.putObj (w.heap.size+1) (.loop (rec (if jump.isNone then .ready else .done) jump))) /\
    (W3.putObj (w.heap.size+1) (.loop (rec (if jump.isNone then .ready else .done) jump))).heap[w.heap.size+1]? = some (.loop (rec (if jump.isNone then .ready else .done) jump)) /\
    (W3.putObj (w.heap.size+1) (.loop (rec (if jump.isNone then .ready else .done) jump))).heap[w.heap.size]? = some (.deferred (some [])) /\
    Mid base W1.heap.size W (W3.putObj (w.heap.size+1) (.loop (rec (if jump.isNone then .ready else .done) jump))) /\
    Below w.heap.size W3 (W3.putObj (w.heap.size+1) (.loop (rec (if jump.isNone then .ready else .done) jump))):=fun jump W3 hk3=>by
   have hl3:=(hk3.block (w.heap.size+1) (by omega) (.inr (by omega))).trans hl2
   have hd3:=(hk3.block w.heap.size (by omega) (.inr (Nat.le_refl _))).trans hk2
   have hz3:=hk3.size
   have:=run_endRound (P:=P) jump hl3
   rw [hrec] at this ⊢
   exact ⟨this,World.putObj_heap_same (Array.getElem?_eq_some_iff.1 hl3).1,(World.putObj_heap_other (by omega)).trans hd3,(hw2.trans (hk3.mono (Nat.le_refl _) (by omega))).trans (Mid.put _ _ _ _ _ (by omega) (by omega)),put_below _ _ _ _ (by omega) (by omega)⟩
  rintro e a3 W3 hp
  cases e with
  | normal=>
   obtain ⟨hk3,hi3⟩:=hp
   obtain ⟨hr,hl4,hk4,hm4,hb4⟩:=fin none W3 hk3
   exact ⟨_,_,hr,.inl ⟨rfl,⟨hI _ _ _ hi3 hb4,hl4,hk4⟩,hm4⟩⟩
  | ret=>
   obtain ⟨hk3,hi3⟩:=hp
   obtain ⟨hr,hl4,hk4,hm4,hb4⟩:=fin (some .ret) W3 hk3
   exact ⟨_,_,hr,.inr ⟨rfl,⟨.ret,hIx _ _ _ _ hi3 hb4,hl4,hk4⟩,hm4⟩⟩
  | exit id=>
   obtain ⟨hk3,hi3⟩:=hp
   obtain ⟨hr,hl4,hk4,hm4,hb4⟩:=fin (some (.exit id)) W3 hk3
   exact ⟨_,_,hr,.inr ⟨rfl,⟨.exit id,hIx _ _ _ _ hi3 hb4,hl4,hk4⟩,hm4⟩⟩
  | goto t=>
   obtain ⟨hk3,hi3⟩:=hp
   obtain ⟨hr,hl4,hk4,hm4,hb4⟩:=fin (some (.goto t)) W3 hk3
   exact ⟨_,_,hr,.inr ⟨rfl,⟨.goto t,hIx _ _ _ _ hi3 hb4,hl4,hk4⟩,hm4⟩⟩
  | panic ch=>exact hp.elim
  | outgrown=>exact hp.elim
 rintro e W2 ⟨⟨v,rfl⟩,(⟨xs,hS,hi,hl,hk⟩ | ⟨pre,hSp,c,hi,hl,hk⟩)⟩
 ·have hlt:=(Array.getElem?_eq_some_iff.1 hl).1
  exact ⟨none,_,by have:=run_endLoop (P:=P) hl (by rw [hrec];simp);rw [hrec] at this;exact this,hdone _ xs _ (Nat.le_refl _) hS (hI _ _ _ hi (put_below _ _ _ _ (by omega) (by omega))) ((World.putObj_heap_other (by omega)).trans hk)⟩
 have hlt:=(Array.getElem?_eq_some_iff.1 hl).1
 exact ⟨some c,_,by have:=run_endLoop (P:=P) hl (by rw [hrec];simp);rw [hrec] at this;exact this,hstop _ c pre _ (Nat.le_refl _) hSp (hIx c _ _ _ hi (put_below _ _ _ _ (by omega) (by omega))) ((World.putObj_heap_other (by omega)).trans hk)⟩
end Go.Proofs.YtjpjalmilfgckaaGreatDoor
namespace Go.Proofs.YtjpjalmilfgckaaGreatDoor
open Go.RowKit
attribute [local go_sem] Oper.semAt_some
theorem wroom2 (k:Nat):Fence.wide.room k:=fun d h=>by simp [Fence.wide] at h
theorem RoundIn.anyW2 {m m':Nat} {P:Program} {l:Nat} {f:FuncId} {tmps:Array Value} {assign body:Code} {w:World} {R:Ending->World->Prop}
  (h:RoundIn Fence.wide m P l f tmps assign body w R):RoundIn Fence.wide m' P l f tmps assign body w R:=⟨h.1,fun c cs _=>h.2 c cs (wroom2 _)⟩
abbrev coT (c:Co):Array Value:=#[.int .i64 c.1,.agg #[.int .i64 c.1,.string c.2.1,.int .i64 c.2.2.1,.bool c.2.2.2.1,.bool c.2.2.2.2.1,.int .i64 c.2.2.2.2.2.1,.string c.2.2.2.2.2.2]]
theorem ids_any (CA:Option Addr) (cn cc:Nat) (KA:Option Addr) (kn kc:Nat) (w:World) :
  Calls Tryz.prog 136 #[.agg #[.slice CA cn cc,.slice KA kn kc]] w fun e w'=>e=.returned (.func (.func 185) #[] #[.pointer (some ⟨w.heap.size,0,none⟩)]) /\
   w'=w.alloc (.cells #[.slice CA cn cc,.slice KA kn kc] 48):=by
 go_enter Tryz.func136,Tryz.ntmps136
 go_wp2
 go_ret
 exact ⟨rfl,rfl⟩
theorem cotake_succ {cs:List Co} {k:Nat} {co:Co} (h:cs[k]? = some co):cs.take (k+1)=cs.take k++[co]:=by
 rw [List.take_add_one,h]
 rfl
set_option maxHeartbeats 4000000 in
theorem ids1_seq (N base g:Nat) (CA:Option Addr) (cn cc:Nat) (kv:Value) (cs:List Co) (w:World) (hbw:base<=w.heap.size) (hg:Blk w g 48 #[.slice CA cn cc,kv]) (hr:Reads w base 7 CA cn (cos cs)) (hcn:cn<=1000000) :
  SeqB N Tryz.prog 185 #[.pointer (some ⟨g,0,none⟩)] coT base (fun xs=>xs=cs) (fun pre=>pre <+: cs) w:=by
 intro l J Jx W hW hJs hXs hY h0
 have HC:=Lib.hid (hr.below (hW.mono hbw))
 have Hl:=Lib.hid (cos_len hr)
 have HYY:=Lib.hid hY
 have HJs:=Lib.hid hJs
 have HJ0:=Lib.hid h0
 have c0:=(hg.on hW).cell 0
 have hcn63:cn<=9223372036854775807:=by omega
 have hbW:base<=W.heap.size:=Nat.le_trans hbw hW.size
 clear hr hY hJs hXs h0 hg hW
 rw [show (#[Value.func (.yield l) #[] #[]]++#[Value.pointer (some ⟨g,0,none⟩)])=#[Value.func (.yield l) #[] #[],Value.pointer (some ⟨g,0,none⟩)] from rfl]
 refine callsIn_of_wp Tryz.func185 rfl trivial ?_ rfl
 simp only [Tryz.ntmps185,List.size_toArray,List.length_cons,List.length_nil,Nat.reduceAdd,Nat.reduceSub,Array.replicate_succ,Array.replicate_zero,List.push_toArray,List.append_toArray,List.nil_append,List.cons_append]
 gi_wp2
 clear c0
 gi_loopw [8] (fun ix wr=>∃ k:Nat,k<=cn/\ix=.int .i64 (k:Int)/\Hid (J (cs.take k) wr)/\Hid (Below base W wr)) (fun ix _=>cn-(intOf ix).toNat)
 case atStart=>exact ⟨0,Nat.zero_le _,rfl,by rw [List.take_zero];exact HJ0,Lib.hid (Below.refl _ _)⟩
 case round=>
  clear HJ0
  obtain ⟨k,hk,rfl,HJ,HB⟩:=hrel
  by_cases hlt:k<cn
  ·have hki:(k:Int)<(cn:Int):=by omega
   have hsz:W.heap.size<=wr.heap.size:=HB.out.size
   obtain ⟨ad,co,rfl,hbk,hco,hat⟩:=cos_at (HC.out.below HB.out) hlt
   have h0:=hat.c0
   have h1:=hat.c1
   have h2:=hat.c2
   have h3:=hat.c3
   have h4:=hat.c4
   have h5:=hat.c5
   have h6:=hat.c6
   have Htk:=Lib.hid (cotake_succ hco)
   have Hpx:=Lib.hid (show cs.take (k+1) <+: cs from List.take_prefix _ _)
   obtain ⟨fn,tmps,assign,body,hy,hR⟩:=HYY.out (cs.take k) co (wr.alloc (.cells #[.int .i64 co.1,.string co.2.1,.int .i64 co.2.2.1,.bool co.2.2.2.1,.bool co.2.2.2.2.1,.int .i64 co.2.2.2.2.2.1,.string co.2.2.2.2.2.2] 45)) (HJs.out _ _ _ HJ.out ((Below.refl _ _).alloc hsz _))
   have HBa:=Lib.hid (HB.out.alloc (show base<=wr.heap.size by omega) (.cells #[.int .i64 co.1,.string co.2.1,.int .i64 co.2.2.1,.bool co.2.2.2.1,.bool co.2.2.2.2.1,.int .i64 co.2.2.2.2.2.1,.string co.2.2.2.2.2.2] 45))
   have hsa:base<=(wr.alloc (.cells #[.int .i64 co.1,.string co.2.1,.int .i64 co.2.2.1,.bool co.2.2.2.1,.bool co.2.2.2.2.1,.int .i64 co.2.2.2.2.2.1,.string co.2.2.2.2.2.2] 45)).heap.size:=Nat.le_trans hbW HBa.out.size
   have Hsa:=Lib.hid hsa
   clear hco hat hbk hsa
   gi_wp2_with fail
   refine ⟨fun h=>by simp [Fence.wide] at h,(RoundIn.anyW2 hR).mono ?_⟩
   clear hR
   rintro e W3 (⟨rfl,hJ3,hm3⟩ | ⟨rfl,hx3,hm3⟩)
   ·rw [<-Htk.out] at hJ3
    have HJ3:=Lib.hid hJ3
    have HB3:=Lib.hid (HBa.out.trans (hm3.below Hsa.out))
    clear hJ3 hm3 hy h0 h1 h2 h3 h4 h5 h6
    gi_wp2
    go_roundw
    case rel=>exact ⟨k+1,by omega,by go_num,HJ3,HB3⟩
    case measure=>simp [intOf];omega
   rw [<-Htk.out] at hx3
   have HX:=Lib.hid hx3
   clear hx3 hm3 hy h0 h1 h2 h3 h4 h5 h6
   gi_wp2
   refine bodyPost_ret (results_none rfl _ _ _) rfl ?_
   exact ⟨⟨_,rfl⟩,.inr ⟨_,Hpx.out,HX.out⟩⟩
  obtain rfl:k=cn:=by omega
  have HX:=Lib.hid (show J cs wr by
   have:=HJ.out
   rwa [List.take_of_length_le (by rw [Hl.out];exact Nat.le_refl _)] at this)
  gi_wp2
  go_end0
  exact ⟨⟨_,rfl⟩,.inl ⟨_,rfl,HX.out⟩⟩
end Go.Proofs.YtjpjalmilfgckaaGreatDoor
namespace Go.Proofs.YtjpjalmilfgckaaGreatDoor
open Go.RowKit
attribute [local go_sem] Oper.semAt_some
theorem Blk.belowL2 {w w':World} {B g:Nat} {t:TypeId} {cs:Array Value} (h:Blk w g t cs) (hb:Below B w w') (hg:g<B):Blk w' g t cs:=(hb.block g hg).trans h
theorem Blk.put2 {w:World} {g l:Nat} {t:TypeId} {cs:Array Value} (h:Blk w g t cs) (o:Obj) (hl:l≠g):Blk (w.putObj l o) g t cs:=(World.putObj_heap_other (by omega)).trans h
theorem lastI_all (s:Sc):lastI s.1=greatL s:=rfl
set_option maxHeartbeats 4000000 in
theorem greatest_any (CA:Option Addr) (cn cc:Nat) (KA:Option Addr) (kn kc:Nat) (s:Sc) (w:World) (h:ScAt w CA cn KA kn s) (hcn:cn<=1000000) :
  Calls Tryz.prog 79 #[.agg #[.slice CA cn cc,.slice KA kn kc]] w fun e w'=>e=.returned (.int .i64 (greatL s))/\Below w.heap.size w w':=by
 obtain ⟨W,hW1⟩:∃ W,(w.alloc (.cells #[.slice CA cn cc,.slice KA kn kc] 48)).alloc (.cells #[.int .i64 0] 3)=W:=⟨_,rfl⟩
 have HB:=Lib.hid (show Below w.heap.size w W by rw [<-hW1];exact bal (bal (Below.refl _ _) _) _)
 have BS:=Lib.hid (show Blk W w.heap.size 48 #[.slice CA cn cc,.slice KA kn kc] by rw [<-hW1];exact (Blk.new w _ _).alloc _)
 have BN:=Lib.hid (show Blk W (w.heap.size+1) 3 #[.int .i64 0] by rw [<-hW1];exact Blk.new' _ _ _ _ (by simp))
 have HR:=Lib.hid h.cols
 have s0:=BS.out.cell 0
 have s1:=BS.out.cell 1
 clear h
 refine (callsIn_wide (n:=10)).1 ?_
 refine callsIn_of_wp_marks Tryz.func79 rfl trivial ?_ rfl
 simp only [Tryz.ntmps79,List.size_toArray,List.length_cons,List.length_nil,Nat.reduceAdd,Nat.reduceSub,Array.replicate_succ,Array.replicate_zero,List.push_toArray,List.append_toArray,List.nil_append,List.cons_append]
 gi_wp2_with fail
 try rw [hW1]
 clear hW1 s0 s1
 refine ⟨trivial,(callsIn_wide.2 (ids_any CA cn cc KA kn kc W)).mono ?_⟩
 rintro e w2 ⟨rfl,hw2⟩
 have HC2:=Lib.hid (show Blk w2 W.heap.size 48 #[.slice CA cn cc,.slice KA kn kc] by rw [hw2];exact Blk.new _ _ _)
 have hb2:Below W.heap.size W w2:=by rw [hw2];exact bal (Below.refl _ _) _
 have HN2:=Lib.hid (BN.out.on hb2)
 have HB2:=Lib.hid (bon HB.out hb2)
 clear hw2 hb2 BN
 gi_wp2_with fail
 have hb02:=HB2.out.size
 have hz1:w.heap.size+1<w2.heap.size:=HN2.out.lt
 refine wpIn_rangeFunc_C (n:=10) (by decide) (gf:=185) (lb:=#[.pointer (some ⟨W.heap.size,0,none⟩)]) rfl (fun args w=>callFunc_in Tryz.func185 (by kernel_rfl) (by kernel_rfl) args w)
  (ids1_seq 9 w.heap.size W.heap.size CA cn cc (.slice KA kn kc) s.1 w2 hb02 HC2.out (HR.out.below HB2.out) hcn) (Below.refl _ _) (fun _=>rfl) hb02
  (fun pre W=>Blk W (w.heap.size+1) 3 #[.int .i64 (lastI pre)]/\Below w.heap.size w W) (fun _ _ _=>False)
  (fun s A A' h hb=>⟨h.1.belowL2 hb hz1,h.2.trans (hb.mono hb02)⟩) (fun _ _ _ _ h _=>h) ⟨HN2.out,HB2.out⟩
  (fun pre x _ W1=>Blk W1 (w.heap.size+1) 3 #[.int .i64 (lastI (pre++[x]))]/\Below w.heap.size w W1)
  (fun pre x _ W1 o h hz=>⟨h.1.put2 o (by omega),h.2.trans (put_below _ _ _ _ (by omega) (by omega))⟩) ?assign ?body ?done ?stop
 case assign=>
  rintro l pre x W3 K ⟨hI,hIb⟩ hz hK
  have c0:=hI.cell 0
  have f0:=hI.frozen 0
  have H2:=hI.set_ 0 (.int .i64 x.1)
  simp only [List.setIfInBounds_toArray,List.set_cons_zero] at H2
  have HI:=Lib.hid hI
  have HIb:=Lib.hid hIb
  have H2:=Lib.hid H2
  have HK:=Lib.hid hK
  clear hI hIb hK
  gi_wp2
  exact HK.out _ _ ((Mid.refl _ _ _).setCell (p:=⟨w.heap.size+1,0,none⟩) (by show w.heap.size<=w.heap.size+1;omega) (.inl hz1) _) ⟨by rw [lastI_snoc];exact H2.out,HIb.out.setCell (p:=⟨w.heap.size+1,0,none⟩) (by show w.heap.size<=w.heap.size+1;omega) _⟩
 case body=>
  rintro l pre x a1 W3 ⟨hI,hIb⟩ hWs
  have HI:=Lib.hid hI
  have HIb:=Lib.hid hIb
  clear hI hIb
  gi_wp2
  exact ⟨Mid.refl _ _ _,HI.out,HIb.out⟩
 case done=>
  rintro D xs W3 hD rfl ⟨hI,hIb⟩ hK
  rw [lastI_all] at hI
  obtain ⟨sv,hsz⟩:∃ sv,greatL s=sv:=⟨_,rfl⟩
  have Hsz:=Lib.hid hsz
  rw [hsz] at hI
  clear hsz
  have c0:=hI.cell 0
  have f0:=hI.frozen 0
  have HI2:=hI.set_ 0 (.int .i64 sv)
  simp only [List.setIfInBounds_toArray,List.set_cons_zero] at HI2
  have HI2:=Lib.hid HI2
  have HIb:=Lib.hid (hIb.setCell (p:=⟨w.heap.size+1,0,none⟩) (by show w.heap.size<=w.heap.size+1;omega) (.int .i64 sv))
  have HK:=Lib.hid (show (W3.setCell ⟨w.heap.size+1,0,none⟩ (.int .i64 sv)).heap[D]? = some (.deferred (some [])) from (Below.heap_setCell W3 ⟨w.heap.size+1,0,none⟩ _ D (by show D≠w.heap.size+1;omega)).trans hK)
  clear hI hIb hK
  gi_wp2
  refine ⟨by simp,.inl ⟨_,_,rfl,run_takeDeferred HK.out,?_⟩⟩
  have hDl:D<(W3.setCell ⟨w.heap.size+1,0,none⟩ (.int .i64 sv)).heap.size:=(Array.getElem?_eq_some_iff.1 HK.out).1
  have hpb:=put_below (W3.setCell ⟨w.heap.size+1,0,none⟩ (.int .i64 sv)) D (.deferred none) w2.heap.size (by omega) hD
  have k0:=(HI2.out.belowL2 hpb hz1).cell 0
  refine ⟨.int .i64 sv,by simp [results,Tryz.results79,go_sem,k0],by rw [Hsz.out],HIb.out.trans (hpb.mono hb02)⟩
 case stop=>
  rintro D c pre W3 _ _ h _
  exact h.elim
end Go.Proofs.YtjpjalmilfgckaaGreatDoor
