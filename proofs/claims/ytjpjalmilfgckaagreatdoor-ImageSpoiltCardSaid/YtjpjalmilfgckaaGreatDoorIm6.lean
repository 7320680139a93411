/- Part 6 of the walks, merged: each text under its own heading. Conditions: none of its own; each lemma states what it asks. -/
import Derived.Test.YtjpjalmilfgckaaGreatDoorIm5
import Derived.Deep.LoopGhost
set_option maxRecDepth 100000
set_option linter.unusedVariables false
set_option linter.unusedSimpArgs false
namespace Go.Proofs.YtjpjalmilfgckaaGreatDoor
open Go.RowKit
theorem reads_new_at (w:World) (v:Value) (e:TypeId) (b:Nat) (hb:b=w.heap.size):Reads (w.alloc (.cells #[v] e)) (w.alloc (.cells #[v] e)).heap.size 1 (some ⟨b,0,none⟩) 1 [v]:=by
 subst hb
 exact reads_new w v e
theorem grown_below {w w1 w2:World} {r:Option Nat} (h:w.grownBy w1 r) (h2:Below w.heap.size w1 w2):w.grownBy w2 r:=
 ⟨h2.os.trans h.os,h2.tape.trans h.tape,h2.output.trans h.output,Nat.le_trans h.size h2.size,fun k hk hne=>(h2.block k hk).trans (h.block k hk hne)⟩
theorem takeT_err (most:Int) (b:List UInt8) (k:Nat) (h:takeT most b=.error k):k≠0:=by
 unfold takeT at h
 split at h
 ·rename_i h1;injection h with h;subst h;exact h1
 split at h
 ·injection h with h;omega
 split at h
 ·injection h with h;omega
 cases h
theorem takeT_ok (most:Int) (b:List UInt8) (s:ByteArray) (n:Nat) (h:takeT most b=.ok (s,n)):n<=b.length/\s.size<=b.length:=by
 unfold takeT at h
 have hg:=get_size b
 split at h
 ·cases h
 split at h
 ·cases h
 split at h
 ·cases h
 injection h with h
 injection h with h1 h2
 subst h1 h2
 refine ⟨by omega,?_⟩
 rw [<-bts_len,bts_txt,List.length_take,List.length_drop]
 omega
def metF (d:List ByteArray) (s:ByteArray):Option Int:=if (placeL d s).isSome then some 1 else none
theorem metF_put (d:List ByteArray) (s:ByteArray) (r:ByteArray):metF (d++[s]) r=if r=s then some 1 else metF d r:=by
 have h:∀ d:List ByteArray,(placeL d r).isSome=true ↔ r∈d:=fun d=>by
  rcases hp:placeL d r with _ | k
  ·have:=(placeL_none d r).1 hp
   simp [this]
  have:=List.mem_of_getElem? (placeL_some d r k hp)
  simp [this]
 unfold metF
 by_cases hr:r=s
 ·rw [if_pos hr,if_pos ((h _).2 (by simp [hr]))]
 rw [if_neg hr]
 by_cases hd:r∈d
 ·rw [if_pos ((h _).2 (by simp [hd])),if_pos ((h _).2 hd)]
 rw [if_neg (fun e=>?_),if_neg (fun e=>hd ((h _).1 e))]
 have:=(h _).1 e
 simp [hd,hr] at this
def Dicted (g:Nat) (A:Option Addr) (l c:Nat) (xs:List UInt8) (r:Except Nat (List ByteArray×List UInt8)) (w:World) (e:Ending) (w':World):Prop:=
 w.grownBy w' (some g)/\match r with
  | .error k=>k≠0/\(∃ v,e=.returned v)/\∃ at2,Cut w' g A l c at2 k
  | .ok (d,q)=>∃ (gb:Nat) (A1:Option Addr) (c1 at2:Nat),e=.returned (.pointer (some ⟨gb,0,none⟩))/\w.heap.size<=gb/\at2<=l/\xs.drop at2=q/\Cut w' g A l c at2 0/\Book w' gb A1 d.length c1 0 /\
   d.length<=c1/\c1<=maxLen/\w'.ownsRow w.heap.size 9 1 (.slice A1 d.length c1) d.length (txs d)
theorem dicted_err {g:Nat} {A:Option Addr} {l c k at2:Nat} {xs:List UInt8} {r:Except Nat (List ByteArray×List UInt8)} {w w':World} {v:Value} (hr:r=.error k) (hk:k≠0) (h1:w.grownBy w' (some g)) (h3:Cut w' g A l c at2 k):Dicted g A l c xs r w (.returned v) w':=by
 subst hr
 exact ⟨h1,hk,⟨v,rfl⟩,at2,h3⟩
def InDic (g gm gb:Nat) (A:Option Addr) (l c:Nat) (xs:List UInt8) (most:Int) (many:Nat) (res:Except Nat (List ByteArray×List UInt8)) (w:World) (k:Nat) (wr:World):Prop:=
 w.grownBy wr (some g)/\∃ (A1:Option Addr) (nd c1 at2 er:Nat) (d:List ByteArray),nd<=many/\Book wr gb A1 nd c1 0/\wr.ownsRow w.heap.size 9 1 (.slice A1 nd c1) nd (txs d)/\Cut wr g A l c at2 er /\
  ((er≠0/\res=.error er)\/(er=0/\nd+k=many/\at2<=l/\MapT wr gm nd nd (metF d)/\takeTexts most k (xs.drop at2) d=res))
set_option maxHeartbeats 4000000 in
theorem cdic_any (g:Nat) (A:Option Addr) (l c:Nat) (xs:List UInt8) (n:Nat) (most:Int) (w:World) (hb:Cut w g A l c 0 0) (hr:Reads w w.heap.size 1 A l (u8s xs)) (hl:l<=c) (hc:c<=maxLen) (hg:0<l->∀ ad,A=some ad->ad.block≠g) (hn:n<=1048576) (hm:most<=9223372036854775807) :
  Calls Tryz.prog 267 #[.pointer (some ⟨g,0,none⟩),.int .i64 (n:Int),.int .i64 most] w (Dicted g A l c xs (dictL xs n most) w):=by
 obtain ⟨i0,hi0,hz0,hz1,hz2⟩:=info_parts text_info
 have hgs:=get_size xs
 have hrl:=reads_len hr
 rw [hrl] at hgs
 have Hrl:=Lib.hid hrl
 have hmm := @run_makeMap Tryz.prog
 clear hrl
 go_enter Tryz.func267,Tryz.ntmps267
 go_wp2_with fail
 with_reducible refine (cnum_any g A l c 0 xs _ hb hr hl hc (Nat.zero_le _)).mono ?_
 rintro e w1 ⟨rfl,hb1,hg1⟩
 rw [List.drop_zero,Nat.zero_add] at *
 have hdl:dictL xs n most=dictL xs n most:=rfl
 conv at hdl=>rhs;unfold dictL
 generalize get xs=r at hgs hb1 hdl ⊢
 obtain ⟨rn,rk,re⟩:=r
 obtain ⟨hk1,hk2,hk3⟩:=hgs
 simp only at hk1 hk2 hk3 hb1 hdl ⊢
 have c2:=hb1.cell 2
 have f2:=hb1.frozen 2
 have hw1:=hg1.size
 by_cases hre:re=0
 ·subst hre
  rw [if_neg (by simp)] at hdl
  by_cases hlim:n<rn
  ·rw [if_pos hlim] at hdl
   have Hdl:=Lib.hid hdl
   have hb1s:=hb1.set_ 2 (.int .i64 5)
   have Hb1s:=Lib.hid hb1s
   have db0:decide (0<rn)=true:=by simp;omega
   clear hdl hk3 hb1 hb1s
   go_wp2
   have hw1s:(w1.setCell ⟨g,2,none⟩ (.int .i64 5)).heap.size=w1.heap.size:=by simp
   have hcut:=Lib.hid (((Hb1s.out).alloc (.map #[] 0)).alloc (.cells #[.slice none 0 0,.int .i64 0] 333))
   have hbook:Blk ((w1.setCell ⟨g,2,none⟩ (.int .i64 5) |>.alloc (.map #[] 0)).alloc (.cells #[.slice none 0 0,.int .i64 0] 333)) (w1.heap.size+1) 333 #[.slice none 0 0,.int .i64 0]:=by
    have:=Blk.new (w1.setCell ⟨g,2,none⟩ (.int .i64 5) |>.alloc (.map #[] 0)) 333 #[.slice none 0 0,.int .i64 0]
    simpa using this
   have hgr:=hg1.trans (((grown_set w1 g 2 (.int .i64 5)).trans (World.grownBy_alloc _ (.map #[] 0) _)).trans (World.grownBy_alloc _ (.cells #[.slice none 0 0,.int .i64 0] 333) _))
   have Hbook:=Lib.hid hbook
   clear hmm hw1s hbook
   go_loopg [] 0 (fun _ wr=>w.grownBy wr (some g)/\Hid (Cut wr g A l c rk 5)/\Hid (Blk wr (w1.heap.size+1) 333 #[.slice none 0 0,.int .i64 0]))
   case atStart=>exact ⟨hgr,hcut,Hbook⟩
   case round=>
    clear hgr hcut Hbook c2 f2
    obtain ⟨hgr,hcut,hbook⟩:=hrel
    have c2:=hcut.out.cell 2
    have b0:=hbook.out.cell 0
    go_wp2
    go_ret
    exact dicted_err Hdl.out (by decide) hgr hcut.out
  rw [if_neg hlim] at hdl
  have Hdl:=Lib.hid hdl
  have Hb1:=Lib.hid hb1
  clear hdl hk3 hb1
  go_wp2
  have hst0:InDic g w1.heap.size (w1.heap.size+1) A l c xs most rn (dictL xs n most) w rn ((w1.alloc (.map #[] 0)).alloc (.cells #[.slice none 0 0,.int .i64 0] 333)):=by
   refine ⟨hg1.trans ((World.grownBy_alloc _ _ _).trans (World.grownBy_alloc _ _ _)),none,0,0,rk,0,[],Nat.zero_le _,?_,World.ownsRow_nil _ _ _ _,((Hb1.out).alloc _).alloc _,.inr ⟨rfl,Nat.zero_add _,by omega,?_,Hdl.out.symm⟩⟩
   ·have h:=Blk.new (w1.alloc (.map #[] 0)) 333 #[.slice none 0 0,.int .i64 0]
    have h2:(w1.alloc (.map #[] 0)).heap.size=w1.heap.size+1:=by simp
    rw [h2] at h
    exact h
   exact (MapS.same (MapS.made w1) (fun s=>by rfl)).al _
  have Hst0:=Lib.hid hst0
  have hgm:w.heap.size<=w1.heap.size:=hw1
  have hgb:w.heap.size<=w1.heap.size+1:=by omega
  generalize (w1.alloc (.map #[] 0)).alloc (.cells #[.slice none 0 0,.int .i64 0] 333)=w2 at Hst0 ⊢
  generalize w1.heap.size+1=gb at Hst0 hgb ⊢
  generalize w1.heap.size=gm at Hst0 hgm ⊢
  clear hst0 hmm Hdl c2 f2 hb Hb1 hg1 hw1
  have hrn:rn<=1048576:=by omega
  go_loopg [10] rn (fun k s wr=>Hid (InDic g gm gb A l c xs most rn (dictL xs n most) w k wr))
  case atStart=>exact Hst0
  case round=>
   obtain ⟨hgr,A1,nd,c1,at2,er,d,hnd,hbook,hown,hcut,hst⟩:=hrel.out
   clear hrel Hst0
   have hgw:=hgr.size
   rcases hst with ⟨her,hres⟩ | ⟨rfl,hk,hat2,hmap,hres⟩
   ·have b0:=hbook.cell 0
    have c2:=hcut.cell 2
    have hn:((er:Int)==0)=false:=by simp;omega
    have Hcut:=Lib.hid hcut
    have Hres:=Lib.hid hres
    have Her:=Lib.hid her
    clear hcut hres her hbook
    by_cases hlt:nd<rn
    ·have db:decide (nd<rn)=true:=by simp;omega
     go_wp2
     go_ret
     exact dicted_err Hres.out Her.out hgr Hcut.out
    have db:decide (nd<rn)=false:=by simp;omega
    go_wp2
    go_ret
    exact dicted_err Hres.out Her.out hgr Hcut.out
   have b0:=hbook.cell 0
   have c2:=hcut.cell 2
   have Hcut:=Lib.hid hcut
   have Hres:=Lib.hid hres
   have Hbook:=Lib.hid hbook
   have Hmap:=Lib.hid hmap
   have Hdl:=Lib.hid (show d.length=nd from by have:=hown.1;simpa using this)
   rcases gk with _ | k
   ·clear hcut hres hbook hmap
    have db:decide (nd<rn)=false:=by simp;omega
    go_wp2
    go_ret
    obtain ⟨_,_,hv,h1,h2⟩:=own_shape hown
    injection hv with hA hn hc'
    subst hA hc'
    have hre:=Hres.out
    rw [takeTexts] at hre
    have hdl:=Hdl.out
    subst hdl
    unfold Dicted
    rw [<-hre]
    exact ⟨hgr,gb,A1,c1,at2,rfl,hgb,hat2,rfl,Hcut.out,Hbook.out,h1,h2,hown⟩
   have db:decide (nd<rn)=true:=by simp;omega
   have hr2:=hr.other hgr hg
   have hgne:g≠gb:=hcut.ne hbook (by decide)
   have hmg:gm≠g:=hmap.blk hcut
   have hmb:gm≠gb:=hmap.blk hbook
   clear hcut hres hbook hmap
   go_wp2_with fail
   with_reducible refine (ctext_any g A l c at2 xs most _ Hcut.out hr2 hl hc hat2 hg hm).mono ?_
   rintro e w5 ⟨hg5,h5⟩
   have hgr5:=hgr.trans hg5
   have hbook5:=Hbook.out.other hg5 hgne.symm
   have hown5:=own_grown hown Hcut.out (by decide) hg5
   have hmap5:=Hmap.out.grown hg5 (by simpa using hmg)
   have hres:=Hres.out
   rw [takeTexts_succ] at hres
   have hok:=takeT_ok most (xs.drop at2)
   have hek:=takeT_err most (xs.drop at2)
   rw [List.length_drop,Hrl.out] at hok
   generalize takeT most (xs.drop at2)=tt at h5 hres hok hek
   clear b0 c2 hown Hcut Hbook Hmap Hres hr2
   have hgw5:=hgr5.size
   have Hbook5:=Lib.hid hbook5
   have Hmap5:=Lib.hid hmap5
   have hs1:nd+1<=maxLen:=by simp only [maxLen];omega
   have hs2:(nd+1)*16<=70368744177664:=by omega
   clear hbook5 hmap5 hg5 hgr hgw
   rcases tt with er | ⟨s,ns⟩
   ·obtain ⟨rfl,at3,hat3,hcut5⟩:=h5
    have her:=hek er rfl
    have hn:((er:Int)==0)=false:=by simp;omega
    have Hcut5:=Lib.hid hcut5
    have Hres:=Lib.hid (show .error er=dictL xs n most from hres)
    have hss:(⟨#[]⟩:ByteArray).size<=maxLen:=by decide
    clear hres hok hek hcut5
    rcases hp:placeL d ⟨#[]⟩ with _ | j
    ·have Hat:=Lib.hid (show metF d ⟨#[]⟩=none from by unfold metF;rw [hp];rfl)
     clear hp
     go_wp2_with (first
      | (at_lookup;refine wpList_mapS_get rfl _ _ _ rfl Hmap5.out Tryz.underlying3 Tryz.underlying9 Tryz.underlying170 (zero_int _) (⟨#[]⟩:ByteArray) hss none Hat.out rfl rfl ?_)
      | (at_mapUpdate
         refine wpList_mapS_store rfl _ _ _ _ rfl Hmap5.out Tryz.underlying3 Tryz.underlying9 Tryz.underlying170 (by simp only [maxLen];omega) (⟨#[]⟩:ByteArray) hss 1 (by decide) rfl rfl rfl ?_
         intro w6 hmap6 hg6
         rw [Hat.out] at hmap6
         have hlook6:=(hmap6.wf (t:=170) Tryz.underlying3 Tryz.underlying9 Tryz.underlying170 (zero_int _) (⟨#[]⟩:ByteArray) hss).2
         simp only [if_true,Option.getD_some] at hlook6
         have hcut6:=Hcut5.out.other hg6 hmg.symm
         have hbook6:=Hbook5.out.other hg6 hmb.symm
         have c26:=hcut6.cell 2
         have hown6:=own_map Hmap5.out hown5 hg6
         have hgr6:=grown_below hgr5 (Below.by_ hg6 hgr5.size hgm)
         replace hmap6:=Lib.hid hmap6
         have hgw6:=hgr6.size
         skip
         have hbase6:=hgr6.size
         have b06:=hbook6.cell 0
         have Hcut6:=Lib.hid hcut6
         have Hbook6:=Lib.hid hbook6
         clear hown5 hg6 hgr5 hcut6 hbook6 Hbook5 Hcut5)
      | (at_builtin
         refine wpList_append_any _ rfl (.tmp 70) (.tmp 72) 240 rfl w.heap.size 9 i0 (.string ⟨#[]⟩) 1 16 Tryz.underlying240 hi0 hz0 hz1 hz2 rfl (by decide) A1 nd c1 _ rfl (hown6.alloc _) _ 1 1 [.string (⟨#[]⟩:ByteArray)] rfl (by first | exact reads_new _ _ _ | exact reads_new_at _ _ _ _ (by simp)) (one_text (⟨#[]⟩:ByteArray)) hs1 hs2 (by simp;omega) ?_
         intro A3 c3 w7 hown7 hb7 hg7 hc7 hm7
         have hbook7:=(Hbook6.out.alloc (.cells #[.string (⟨#[]⟩:ByteArray)] 9)).apart (hown6.alloc _) (by decide) hg7
         have hcut7:=(Hcut6.out.alloc (.cells #[.string (⟨#[]⟩:ByteArray)] 9)).apart (hown6.alloc _) (by decide) hg7
         have hmap7:=(hmap6.out.al (.cells #[.string (⟨#[]⟩:ByteArray)] 9)).grown hg7 ((hmap6.out.al (.cells #[.string (⟨#[]⟩:ByteArray)] 9)).apart (hown6.alloc _))
         have hgr7:=grown_below (hgr6.trans (World.grownBy_alloc _ (.cells #[.string (⟨#[]⟩:ByteArray)] 9) _)) hb7
         have bf7:=hbook7.frozen 0
         have b07:=hbook7.cell 0
         replace hmap7:=Lib.hid hmap7
         replace hcut7:=Lib.hid hcut7
         replace hbook7:=Lib.hid hbook7
         clear hown6 Hbook6 Hcut6 hmap6 hgr6 hg7))
     rw [show txs d++[Value.string (⟨#[]⟩:ByteArray)]=txs (d++[(⟨#[]⟩:ByteArray)]) from by simp [txs]] at hown7
     have hbook8:=hbook7.out.set_ 0 (.slice A3 (nd+1) c3)
     have hown8:=own_far hown7 hbook7.out (by decide) 0 (.slice A3 (nd+1) c3)
     have hcut8:=hcut7.out.far (p:=⟨gb,0,none⟩) hgne (.slice A3 (nd+1) c3)
     have hmap8:=hmap7.out.set (a:=⟨gb,0,none⟩) hmb (.slice A3 (nd+1) c3)
     have hgr8:=grown_below hgr7 ((Below.refl _ w7).setCell (p:=⟨gb,0,none⟩) hgb (.slice A3 (nd+1) c3))
     clear hown7 hbook7 hcut7 hmap7 hgr7
     go_roundg k
     case measure=>omega
     case rel=>exact Lib.hid ⟨hgr8,A3,nd+1,c3,at3,er,_,by omega,hbook8,hown8,hcut8,.inl ⟨by omega,Hres.out.symm⟩⟩
    have Hat:=Lib.hid (show metF d ⟨#[]⟩=some 1 from by unfold metF;rw [hp];rfl)
    clear hp
    go_wp2_with (first
     | (at_lookup;refine wpList_mapS_get rfl _ _ _ rfl Hmap5.out Tryz.underlying3 Tryz.underlying9 Tryz.underlying170 (zero_int _) (⟨#[]⟩:ByteArray) hss (some 1) Hat.out rfl rfl ?_)
     | (at_mapUpdate
        refine wpList_mapS_store rfl _ _ _ _ rfl Hmap5.out Tryz.underlying3 Tryz.underlying9 Tryz.underlying170 (by simp only [maxLen];omega) (⟨#[]⟩:ByteArray) hss 2 (by decide) rfl rfl rfl ?_
        intro w6 hmap6 hg6
        rw [Hat.out] at hmap6
        have hlook6:=(hmap6.wf (t:=170) Tryz.underlying3 Tryz.underlying9 Tryz.underlying170 (zero_int _) (⟨#[]⟩:ByteArray) hss).2
        simp only [if_true,Option.getD_some] at hlook6
        have hcut6:=Hcut5.out.other hg6 hmg.symm
        have hbook6:=Hbook5.out.other hg6 hmb.symm
        have c26:=hcut6.cell 2
        have hown6:=own_map Hmap5.out hown5 hg6
        have hgr6:=grown_below hgr5 (Below.by_ hg6 hgr5.size hgm)
        replace hmap6:=Lib.hid hmap6
        have hgw6:=hgr6.size
        skip
        have hbase6:=hgr6.size
        have b06:=hbook6.cell 0
        have Hcut6:=Lib.hid hcut6
        have Hbook6:=Lib.hid hbook6
        clear hown5 hg6 hgr5 hcut6 hbook6 Hbook5 Hcut5)
     | (at_builtin
        refine wpList_append_any _ rfl (.tmp 70) (.tmp 72) 240 rfl w.heap.size 9 i0 (.string ⟨#[]⟩) 1 16 Tryz.underlying240 hi0 hz0 hz1 hz2 rfl (by decide) A1 nd c1 _ rfl (hown6.alloc _) _ 1 1 [.string (⟨#[]⟩:ByteArray)] rfl (by first | exact reads_new _ _ _ | exact reads_new_at _ _ _ _ (by simp)) (one_text (⟨#[]⟩:ByteArray)) hs1 hs2 (by simp;omega) ?_
        intro A3 c3 w7 hown7 hb7 hg7 hc7 hm7
        have hbook7:=(Hbook6.out.alloc (.cells #[.string (⟨#[]⟩:ByteArray)] 9)).apart (hown6.alloc _) (by decide) hg7
        have hcut7:=(Hcut6.out.alloc (.cells #[.string (⟨#[]⟩:ByteArray)] 9)).apart (hown6.alloc _) (by decide) hg7
        have hmap7:=(hmap6.out.al (.cells #[.string (⟨#[]⟩:ByteArray)] 9)).grown hg7 ((hmap6.out.al (.cells #[.string (⟨#[]⟩:ByteArray)] 9)).apart (hown6.alloc _))
        have hgr7:=grown_below (hgr6.trans (World.grownBy_alloc _ (.cells #[.string (⟨#[]⟩:ByteArray)] 9) _)) hb7
        have bf7:=hbook7.frozen 0
        have b07:=hbook7.cell 0
        replace hmap7:=Lib.hid hmap7
        replace hcut7:=Lib.hid hcut7
        replace hbook7:=Lib.hid hbook7
        clear hown6 Hbook6 Hcut6 hmap6 hgr6 hg7))
    rw [show txs d++[Value.string (⟨#[]⟩:ByteArray)]=txs (d++[(⟨#[]⟩:ByteArray)]) from by simp [txs]] at hown7
    have hbook8:=hbook7.out.set_ 0 (.slice A3 (nd+1) c3)
    have hown8:=own_far hown7 hbook7.out (by decide) 0 (.slice A3 (nd+1) c3)
    have hcut8:=hcut7.out.far (p:=⟨gb,0,none⟩) hgne (.slice A3 (nd+1) c3)
    have hmap8:=hmap7.out.set (a:=⟨gb,0,none⟩) hmb (.slice A3 (nd+1) c3)
    have hgr8:=grown_below hgr7 ((Below.refl _ w7).setCell (p:=⟨gb,0,none⟩) hgb (.slice A3 (nd+1) c3))
    clear hown7 hbook7 hcut7 hmap7 hgr7
    go_roundg k
    case measure=>omega
    case rel=>exact Lib.hid ⟨hgr8,A3,nd+1,c3,at3,er,_,by omega,hbook8,hown8,hcut8,.inl ⟨by omega,Hres.out.symm⟩⟩
   obtain ⟨rfl,hcut5⟩:=h5
   obtain ⟨hok1,hok2⟩:=hok s ns rfl
   have hss:s.size<=maxLen:=by unfold maxLen at hc ⊢;omega
   have Hcut5:=Lib.hid hcut5
   clear hok hek hcut5
   rcases hp:placeL d s with _ | j
   ·have hres2:takeTexts most k (xs.drop (at2+ns)) (d++[s])=dictL xs n most:=by
     rw [<-hres]
     simp only [hp,Option.isSome_none,if_false,Bool.false_eq_true,List.drop_drop]
    have Hres:=Lib.hid hres2
    have Hat:=Lib.hid (show metF d s=none from by unfold metF;rw [hp];rfl)
    have Hput:=Lib.hid (metF_put d s)
    clear hp hres hres2
    go_wp2_with (first
     | (at_lookup;refine wpList_mapS_get rfl _ _ _ rfl Hmap5.out Tryz.underlying3 Tryz.underlying9 Tryz.underlying170 (zero_int _) s hss none Hat.out rfl rfl ?_)
     | (at_mapUpdate
        refine wpList_mapS_store rfl _ _ _ _ rfl Hmap5.out Tryz.underlying3 Tryz.underlying9 Tryz.underlying170 (by simp only [maxLen];omega) s hss 1 (by decide) rfl rfl rfl ?_
        intro w6 hmap6 hg6
        rw [Hat.out] at hmap6
        have hlook6:=(hmap6.wf (t:=170) Tryz.underlying3 Tryz.underlying9 Tryz.underlying170 (zero_int _) s hss).2
        simp only [if_true,Option.getD_some] at hlook6
        have hcut6:=Hcut5.out.other hg6 hmg.symm
        have hbook6:=Hbook5.out.other hg6 hmb.symm
        have c26:=hcut6.cell 2
        have hown6:=own_map Hmap5.out hown5 hg6
        have hgr6:=grown_below hgr5 (Below.by_ hg6 hgr5.size hgm)
        replace hmap6:=Lib.hid hmap6
        have hgw6:=hgr6.size
        skip
        have hbase6:=hgr6.size
        have b06:=hbook6.cell 0
        have Hcut6:=Lib.hid hcut6
        have Hbook6:=Lib.hid hbook6
        clear hown5 hg6 hgr5 hcut6 hbook6 Hbook5 Hcut5)
     | (at_builtin
        refine wpList_append_any _ rfl (.tmp 70) (.tmp 72) 240 rfl w.heap.size 9 i0 (.string ⟨#[]⟩) 1 16 Tryz.underlying240 hi0 hz0 hz1 hz2 rfl (by decide) A1 nd c1 _ rfl (hown6.alloc _) _ 1 1 [.string s] rfl (by first | exact reads_new _ _ _ | exact reads_new_at _ _ _ _ (by simp)) (one_text s) hs1 hs2 (by simp;omega) ?_
        intro A3 c3 w7 hown7 hb7 hg7 hc7 hm7
        have hbook7:=(Hbook6.out.alloc (.cells #[.string s] 9)).apart (hown6.alloc _) (by decide) hg7
        have hcut7:=(Hcut6.out.alloc (.cells #[.string s] 9)).apart (hown6.alloc _) (by decide) hg7
        have hmap7:=(hmap6.out.al (.cells #[.string s] 9)).grown hg7 ((hmap6.out.al (.cells #[.string s] 9)).apart (hown6.alloc _))
        have hgr7:=grown_below (hgr6.trans (World.grownBy_alloc _ (.cells #[.string s] 9) _)) hb7
        have bf7:=hbook7.frozen 0
        have b07:=hbook7.cell 0
        replace hmap7:=Lib.hid hmap7
        replace hcut7:=Lib.hid hcut7
        replace hbook7:=Lib.hid hbook7
        clear hown6 Hbook6 Hcut6 hmap6 hgr6 hg7))
    rw [show txs d++[Value.string s]=txs (d++[s]) from by simp [txs]] at hown7
    have hbook8:=hbook7.out.set_ 0 (.slice A3 (nd+1) c3)
    have hown8:=own_far hown7 hbook7.out (by decide) 0 (.slice A3 (nd+1) c3)
    have hcut8:=hcut7.out.far (p:=⟨gb,0,none⟩) hgne (.slice A3 (nd+1) c3)
    have hmap8:=hmap7.out.set (a:=⟨gb,0,none⟩) hmb (.slice A3 (nd+1) c3)
    have hgr8:=grown_below hgr7 ((Below.refl _ w7).setCell (p:=⟨gb,0,none⟩) hgb (.slice A3 (nd+1) c3))
    clear hown7 hbook7 hcut7 hmap7 hgr7
    go_roundg k
    case measure=>omega
    case rel=>exact Lib.hid ⟨hgr8,A3,nd+1,c3,at2+ns,0,_,by omega,hbook8,hown8,hcut8,.inr ⟨rfl,by omega,by omega,MapS.same hmap8 (fun r=>Hput.out r),Hres.out⟩⟩
   have hres2:dictL xs n most=.error 150:=by
    rw [<-hres]
    simp only [hp,Option.isSome_some,if_true]
   have Hres:=Lib.hid hres2
   have Hat:=Lib.hid (show metF d s=some 1 from by unfold metF;rw [hp];rfl)
   clear hp hres hres2
   go_wp2_with (first
    | (at_lookup;refine wpList_mapS_get rfl _ _ _ rfl Hmap5.out Tryz.underlying3 Tryz.underlying9 Tryz.underlying170 (zero_int _) s hss (some 1) Hat.out rfl rfl ?_)
    | (at_mapUpdate
       refine wpList_mapS_store rfl _ _ _ _ rfl Hmap5.out Tryz.underlying3 Tryz.underlying9 Tryz.underlying170 (by simp only [maxLen];omega) s hss 2 (by decide) rfl rfl rfl ?_
       intro w6 hmap6 hg6
       rw [Hat.out] at hmap6
       have hlook6:=(hmap6.wf (t:=170) Tryz.underlying3 Tryz.underlying9 Tryz.underlying170 (zero_int _) s hss).2
       simp only [if_true,Option.getD_some] at hlook6
       have hcut6:=Hcut5.out.other hg6 hmg.symm
       have hbook6:=Hbook5.out.other hg6 hmb.symm
       have c26:=hcut6.cell 2
       have hown6:=own_map Hmap5.out hown5 hg6
       have hgr6:=grown_below hgr5 (Below.by_ hg6 hgr5.size hgm)
       replace hmap6:=Lib.hid hmap6
       have hgw6:=hgr6.size
       have f26:=hcut6.frozen 2;replace hbook6:=hbook6.far (p:=⟨g,2,none⟩) hgne.symm (.int .i64 150);replace hown6:=own_far hown6 hcut6 (by decide) 2 (.int .i64 150);replace hmap6:=Lib.hid (hmap6.out.set (a:=⟨g,2,none⟩) hmg (.int .i64 150));replace hgr6:=hgr6.trans (grown_set w6 g 2 (.int .i64 150));replace hcut6:=hcut6.set_ 2 (.int .i64 150)
       have hbase6:=hgr6.size
       have b06:=hbook6.cell 0
       have Hcut6:=Lib.hid hcut6
       have Hbook6:=Lib.hid hbook6
       clear hown5 hg6 hgr5 hcut6 hbook6 Hbook5 Hcut5)
    | (at_builtin
       refine wpList_append_any _ rfl (.tmp 70) (.tmp 72) 240 rfl w.heap.size 9 i0 (.string ⟨#[]⟩) 1 16 Tryz.underlying240 hi0 hz0 hz1 hz2 rfl (by decide) A1 nd c1 _ rfl (hown6.alloc _) _ 1 1 [.string s] rfl (by first | exact reads_new _ _ _ | exact reads_new_at _ _ _ _ (by simp)) (one_text s) hs1 hs2 (by simp;omega) ?_
       intro A3 c3 w7 hown7 hb7 hg7 hc7 hm7
       have hbook7:=(Hbook6.out.alloc (.cells #[.string s] 9)).apart (hown6.alloc _) (by decide) hg7
       have hcut7:=(Hcut6.out.alloc (.cells #[.string s] 9)).apart (hown6.alloc _) (by decide) hg7
       have hmap7:=(hmap6.out.al (.cells #[.string s] 9)).grown hg7 ((hmap6.out.al (.cells #[.string s] 9)).apart (hown6.alloc _))
       have hgr7:=grown_below (hgr6.trans (World.grownBy_alloc _ (.cells #[.string s] 9) _)) hb7
       have bf7:=hbook7.frozen 0
       have b07:=hbook7.cell 0
       replace hmap7:=Lib.hid hmap7
       replace hcut7:=Lib.hid hcut7
       replace hbook7:=Lib.hid hbook7
       clear hown6 Hbook6 Hcut6 hmap6 hgr6 hg7))
   rw [show txs d++[Value.string s]=txs (d++[s]) from by simp [txs]] at hown7
   have hbook8:=hbook7.out.set_ 0 (.slice A3 (nd+1) c3)
   have hown8:=own_far hown7 hbook7.out (by decide) 0 (.slice A3 (nd+1) c3)
   have hcut8:=hcut7.out.far (p:=⟨gb,0,none⟩) hgne (.slice A3 (nd+1) c3)
   have hmap8:=hmap7.out.set (a:=⟨gb,0,none⟩) hmb (.slice A3 (nd+1) c3)
   have hgr8:=grown_below hgr7 ((Below.refl _ w7).setCell (p:=⟨gb,0,none⟩) hgb (.slice A3 (nd+1) c3))
   clear hown7 hbook7 hcut7 hmap7 hgr7
   go_roundg k
   case measure=>omega
   case rel=>exact Lib.hid ⟨hgr8,A3,nd+1,c3,at2+ns,150,_,by omega,hbook8,hown8,hcut8,.inl ⟨by decide,Hres.out⟩⟩
 rw [if_pos hre] at hdl
 obtain ⟨rfl,rfl⟩:=hk3 hre
 have hn:((re:Int)==0)=false:=by simp;omega
 have hn2:((re:Int) != 0)=true:=by simp;omega
 have Hdl:=Lib.hid hdl
 have Hb1:=Lib.hid hb1
 have Hre:=Lib.hid hre
 clear hdl hk3 hb1 hre
 go_wp2
 have hcut:=Lib.hid (((Hb1.out).alloc (.map #[] 0)).alloc (.cells #[.slice none 0 0,.int .i64 0] 333))
 have hbook:Blk ((w1.alloc (.map #[] 0)).alloc (.cells #[.slice none 0 0,.int .i64 0] 333)) (w1.heap.size+1) 333 #[.slice none 0 0,.int .i64 0]:=by
  have:=Blk.new (w1.alloc (.map #[] 0)) 333 #[.slice none 0 0,.int .i64 0]
  simpa using this
 have hgr:=hg1.trans ((World.grownBy_alloc _ (.map #[] 0) _).trans (World.grownBy_alloc _ (.cells #[.slice none 0 0,.int .i64 0] 333) _))
 have Hbook:=Lib.hid hbook
 clear hmm hbook
 go_loopg [] 0 (fun _ wr=>w.grownBy wr (some g)/\Hid (Cut wr g A l c 0 re)/\Hid (Blk wr (w1.heap.size+1) 333 #[.slice none 0 0,.int .i64 0]))
 case atStart=>exact ⟨hgr,hcut,Hbook⟩
 case round=>
  clear hgr hcut Hbook c2 f2
  obtain ⟨hgr,hcut,hbook⟩:=hrel
  have c2:=hcut.out.cell 2
  have b0:=hbook.out.cell 0
  go_wp2
  go_ret
  exact dicted_err Hdl.out Hre.out hgr hcut.out
end Go.Proofs.YtjpjalmilfgckaaGreatDoor
namespace Go.Proofs.YtjpjalmilfgckaaGreatDoor
open Go.RowKit
theorem own_block_ne {w:World} {base n c g:Nat} {e t:TypeId} {A:Option Addr} {xs:List Value} {cs:Array Value} (h:w.ownsRow base e 1 (.slice A n c) n xs) (hb:Blk w g t cs) (hne:e≠t):∀ ad,A=some ad->ad.block≠g:=by
 rintro ad rfl
 rcases h.2 with ⟨h0,_⟩ | ⟨g2,cap,cur,hv,h1,h2,h3⟩
 ·cases h0
 injection hv with hA
 injection hA with hA
 subst hA
 rintro rfl
 unfold Blk at hb
 rw [h2] at hb
 injection hb with hb
 injection hb with _ h4
 exact hne h4
theorem own_sep {w w':World} {base B:Nat} {e e2:TypeId} {v v2:Value} {n n2 size size2:Nat} {xs ys:List Value} (h:w.ownsRow base e size v n xs) (hB:∀ k,v.ownBlock=some k->k<B) (h2:w.ownsRow B e2 size2 v2 n2 ys) (hg:w.grownBy w' v2.ownBlock):w'.ownsRow base e size v n xs:=by
 refine h.kept hg ?_
 rcases hv:v.ownBlock with _ | k
 ·exact .inl rfl
 right
 have:=hB k hv
 rcases hv2:v2.ownBlock with _ | k2
 ·simp
 have:=(h2.lt k2 hv2).1
 simp only [ne_eq,Option.some.injEq]
 omega
def InGet (gc gb B:Nat) (A:Option Addr) (l c:Nat) (xs:List UInt8) (most:Int) (n:Nat) (w:World) (k:Nat) (out:List ByteArray) (wr:World):Prop:=
 ∃ at2 er,Cut wr gc A l c at2 er/\((er≠0/\getN xs n most=.error er)\/(er=0/\at2<=l/\∃ (d:List ByteArray) (r:List UInt8) (Ad:Option Addr) (cd u:Nat) (ns:List Nat),dictL xs n most=.ok (d,r)/\w.heap.size<=gb/\Book wr gb Ad d.length cd u/\d.length<=cd/\cd<=maxLen /\
  wr.ownsRow w.heap.size 9 1 (.slice Ad d.length cd) d.length (txs d)/\(∀ q,(Value.slice Ad d.length cd).ownBlock=some q->q<B)/\u<=d.length/\takeNums d.length k (xs.drop at2) u ns=takeNums d.length n r 0 []/\out=ns.filterMap (d[·]?)))
def Got3 (r:Except Nat (List ByteArray×Nat)) (w:World) (e:Ending) (w':World):Prop:=
 Below w.heap.size w w'/\match r with
  | .error k=>e=.returned (.tuple #[.slice none 0 0,.int .i64 0,.int .i64 (k:Int)])
  | .ok (l,size)=>∃ (A:Option Addr) (c:Nat),e=.returned (.tuple #[.slice A l.length c,.int .i64 (size:Int),.int .i64 0])/\l.length<=c/\c<=maxLen/\w'.ownsRow w.heap.size 9 1 (.slice A l.length c) l.length (txs l)
theorem got3_err {r:Except Nat (List ByteArray×Nat)} {k:Nat} {w w':World} (hr:r=.error k) (h:Below w.heap.size w w'):Got3 r w (.returned (.tuple #[.slice none 0 0,.int .i64 0,.int .i64 (k:Int)])) w':=by
 subst hr
 exact ⟨h,rfl⟩
theorem getDI_bad (xs:List UInt8) (n most:Int) (h:n<0\/1048576<n):getDI xs n most=.error 6:=by
 unfold getDI
 rw [if_pos h]
theorem getDI_ok (xs:List UInt8) (n:Nat) (most:Int) (h:n<=1048576):getDI xs (n:Int) most=getN xs n most:=by
 unfold getDI
 rw [if_neg (by omega),Int.toNat_natCast]
theorem getN_dict {xs:List UInt8} {n:Nat} {most:Int} {k:Nat} (h:dictL xs n most=.error k):getN xs n most=.error k:=by
 unfold getN
 rw [h]
theorem getN_num {xs:List UInt8} {n:Nat} {most:Int} {k:Nat} {d:List ByteArray} {r:List UInt8} (h:dictL xs n most=.ok (d,r)) (h2:takeNums d.length n r 0 []=.error k):getN xs n most=.error k:=by
 unfold getN
 rw [h]
 simp only [h2]
theorem getN_end {xs:List UInt8} {n:Nat} {most:Int} {d:List ByteArray} {r q:List UInt8} {u:Nat} {ns:List Nat} (h:dictL xs n most=.ok (d,r)) (h2:takeNums d.length n r 0 []=.ok (u,ns,q)):getN xs n most=if u<d.length then .error 150 else .ok (ns.filterMap (d[·]?),xs.length-q.length):=by
 unfold getN
 rw [h]
 simp only [h2]
set_option maxHeartbeats 4000000 in
theorem dget_any (A:Option Addr) (l c:Nat) (xs:List UInt8) (n most:Int) (w:World) (hr:Reads w w.heap.size 1 A l (u8s xs)) (hl:l<=c) (hc:c<=maxLen) (hn1 : -9223372036854775808<=n) (hn2:n<=9223372036854775807) (hm:most<=9223372036854775807) :
  Calls Tryz.prog 244 #[.slice A l c,.int .i64 n,.int .i64 most] w (Got3 (getDI xs n most) w):=by
 obtain ⟨i0,hi0,hz0,hz1,hz2⟩:=info_parts text_info
 have Hrl:=Lib.hid (reads_len hr)
 by_cases hn:n<0\/1048576<n
 ·rw [getDI_bad xs n most hn]
  rcases hn with hn | hn
  all_goals
   go_enter Tryz.func244,Tryz.ntmps244
   go_wp2
   go_ret3
   exact got3_err rfl (Below.refl _ _)
 obtain ⟨n,rfl⟩:=Int.eq_ofNat_of_zero_le (by omega:0<=n)
 rw [getDI_ok xs n most (by omega)]
 have hnn:n<=1048576:=by omega
 clear hn hn1 hn2
 go_enter Tryz.func244,Tryz.ntmps244
 go_wp2_with fail
 have hb0:Cut (w.alloc (.cells #[.slice A l c,.int .i64 0,.int .i64 0] 309)) w.heap.size A l c 0 0:=Blk.new w _ _
 have hne:0<l->∀ ad,A=some ad->ad.block≠w.heap.size:=by
  rintro h0 ad rfl
  obtain ⟨ad',e,hlt',-⟩:=hr.2 h0
  obtain rfl:=Option.some.inj e
  omega
 have hr0:=hr.al (.cells #[.slice A l c,.int .i64 0,.int .i64 0] 309)
 have hB0:=bal (Below.refl w.heap.size w) (.cells #[.slice A l c,.int .i64 0,.int .i64 0] 309)
 have hs0:w.heap.size<(w.alloc (.cells #[.slice A l c,.int .i64 0,.int .i64 0] 309)).heap.size:=by simp
 with_reducible refine (cdic_any w.heap.size A l c xs n most _ hb0 hr0 hl hc hne hnn hm).mono ?_
 rintro e w3 ⟨hg3,h3⟩
 generalize w.alloc (.cells #[.slice A l c,.int .i64 0,.int .i64 0] 309)=w1 at hg3 hr0 hB0 hb0 hs0 h3
 have hB3:Below w.heap.size w w3:=hB0.trans (Below.by_ hg3 hB0.size (Nat.le_refl _))
 have hstart:∃ (v:Value) (gb:Nat),e=.returned v/\InGet w.heap.size gb w3.heap.size A l c xs most n w n [] w3/\((∃ k,dictL xs n most=.error k)\/v=.pointer (some ⟨gb,0,none⟩)):=by
  rcases hd:dictL xs n most with k | ⟨d,r⟩
  ·rw [hd] at h3
   obtain ⟨hk,⟨v,rfl⟩,at2,hcut⟩:=h3
   exact ⟨v,0,rfl,⟨at2,k,hcut,.inl ⟨hk,getN_dict hd⟩⟩,.inl ⟨k,rfl⟩⟩
  rw [hd] at h3
  obtain ⟨gb,A1,c1,at2,rfl,h4,h5,rfl,h6,h7,h8,h9,h10⟩:=h3
  refine ⟨_,gb,rfl,⟨at2,0,h6,.inr ⟨rfl,h5,d,_,A1,c1,0,[],hd,Nat.le_trans (Nat.le_of_lt hs0) h4,h7,h8,h9,own_mono h10 (Nat.le_of_lt hs0),fun q hq=>(h10.lt q hq).2,Nat.zero_le _,rfl,rfl⟩⟩,.inr rfl⟩
 obtain ⟨v,gb,rfl,hst,hv⟩:=hstart
 have hwB:w.heap.size<w3.heap.size:=Nat.lt_of_lt_of_le hs0 hg3.size
 have Hst:=Lib.hid hst
 have Hv:=Lib.hid hv
 obtain ⟨B,hBB⟩:∃ B,B=w3.heap.size:=⟨_,rfl⟩
 rw [<-hBB] at Hst hwB
 have HBr:=Lib.hid (Nat.le_of_eq hBB)
 clear hBB
 clear h3 hst hv hg3 hb0 hB0 hr0 hs0
 go_wp2
 go_loopw [6,27] (fun u i wr=>∃ (k no:Nat) (A1:Option Addr) (c1:Nat) (out:List ByteArray),k<=n/\no<=k/\i=.int .i64 (k:Int)/\u=.slice A1 no c1/\wr.ownsRow B 9 1 (.slice A1 no c1) no (txs out) /\
  Hid (InGet w.heap.size gb B A l c xs most n w (n-k) out wr)/\Below w.heap.size w wr/\Hid (B<=wr.heap.size)) (fun _ i _=>n-(intOf i).toNat)
 case atStart=>exact ⟨0,0,none,0,[],Nat.zero_le _,Nat.le_refl _,rfl,rfl,World.ownsRow_nil _ _ _ _,Hst,hB3,HBr⟩
 case round=>
  clear Hst hB3
  obtain ⟨k,no,A1,c1,out,hk,hno,rfl,rfl,hown,hst,hB,hBs⟩:=hrel
  obtain ⟨at2,er,hcut,hcase⟩:=hst.out
  clear hst
  have hlen:out.length=no:=by have:=hown.1;simpa using this
  have Hlen:=Lib.hid hlen
  clear hlen
  rcases hcase with ⟨her,hres⟩ | ⟨rfl,hat2,d,r,Ad,cd,u,ns,hd,hgbw,hbook,hdc,hcm,hownd,hsep,hu,htn,hout⟩
  ·have hn:((er:Int)==0)=false:=by simp;omega
   have hn2:((er:Int) != 0)=true:=by simp;omega
   have c2:=hcut.cell 2
   have Hres:=Lib.hid hres
   have Hcut:=Lib.hid hcut
   clear hres hcut
   by_cases hlt:k<n
   ·go_wp2_with fail
    with_reducible refine (cnum_err w.heap.size A l c at2 er _ Hcut.out her).mono ?_
    rintro e w' ⟨rfl,rfl⟩
    go_wp2
    go_region
    all_goals
     go_wp2
     go_ret3
     exact got3_err Hres.out hB.drew
   go_wp2
   go_region
   all_goals
    go_wp2
    go_ret3
    exact got3_err Hres.out hB.drew
  obtain rfl:v=.pointer (some ⟨gb,0,none⟩):=Hv.out.resolve_left (by rintro ⟨k,hk⟩;rw [hk] at hd;cases hd)
  by_cases hlt:k<n
  ·have hrw:Reads wr wr.heap.size 1 A l (u8s xs):=(hr.below hB).more hB.size
   have htn2:=htn
   rw [show n-k=(n-(k+1))+1 from by omega,takeNums] at htn2
   have hgs:=get_size (xs.drop at2)
   rw [List.length_drop,Hrl.out] at hgs
   have hgcb:w.heap.size≠gb:=hcut.ne hbook (by decide)
   have Hcut:=Lib.hid hcut
   have Hd:=Lib.hid hd
   have Hbook:=Lib.hid hbook
   have Hsep:=Lib.hid hsep
   have Hout:=Lib.hid hout
   have hbs:=hBs.out
   have hdm:d.length<=maxLen:=Nat.le_trans hdc hcm
   clear hcut hd hbook hsep hout htn
   go_wp2_with fail
   with_reducible refine (cnum_any w.heap.size A l c at2 xs _ Hcut.out hrw hl hc hat2).mono ?_
   rintro e w4 ⟨rfl,hcut4,hg4⟩
   have hB4:=hB.trans (Below.by_ hg4 hB.size (Nat.le_refl _))
   have hbook4:=Hbook.out.other hg4 hgcb.symm
   have hown4:=own_grown hown Hcut.out (by decide) hg4
   have hownd4:=own_grown hownd Hcut.out (by decide) hg4
   have hBs4:B<=w4.heap.size:=Nat.le_trans hbs hg4.size
   rw [show (xs.drop at2).drop (get (xs.drop at2)).2.1=xs.drop (at2+(get (xs.drop at2)).2.1) from by rw [List.drop_drop]] at htn2
   generalize get (xs.drop at2)=rr at hgs hcut4 htn2 ⊢
   obtain ⟨rn,rk,re⟩:=rr
   obtain ⟨hk1,hk2,hk3⟩:=hgs
   simp only at hk1 hk2 hk3 hcut4 htn2 ⊢
   have hq:at2+rk<=l:=by omega
   generalize at2+rk=q at hcut4 htn2 hq
   clear hg4 hrw Hcut Hbook hown hownd
   by_cases hre:re=0
   ·subst hre
    rw [if_neg (by simp)] at htn2
    have c24:=hcut4.cell 2
    have f24:=hcut4.frozen 2
    have hs1:no+1<=maxLen:=by simp only [maxLen];omega
    have hs2:(no+1)*16<=70368744177664:=by omega
    by_cases hbad:d.length<=rn\/u<rn
    ·rw [if_pos hbad] at htn2
     have Hres:=Lib.hid (getN_num Hd.out htn2.symm)
     have hcut6:=hcut4.set_ 2 (.int .i64 150)
     have hown6:=own_far hown4 hcut4 (by decide) 2 (.int .i64 150)
     have hB6:=hB4.setCell (p:=⟨w.heap.size,2,none⟩) (Nat.le_refl _) (.int .i64 150)
     have hBs6:B<=(w4.setCell ⟨w.heap.size,2,none⟩ (.int .i64 150)).heap.size:=by simpa using hBs4
     have Hcut6:=Lib.hid hcut6
     have Hbook4:=Lib.hid hbook4
     clear htn2 hcut4 hcut6 hownd4 hbook4 hown4 hk3
     go_wp2_with fail
     with_reducible refine (btext_no gb Ad d.length cd u (rn:Int) _ Hbook4.out hdm hu (by omega)).mono ?_
     rintro e w' ⟨rfl,rfl⟩
     go_wp2_with (at_builtin
                  refine wpList_append_any _ rfl (.tmp 45) (.tmp 47) 240 rfl B 9 i0 (.string ⟨#[]⟩) 1 16 Tryz.underlying240 hi0 hz0 hz1 hz2 rfl (by decide) A1 no c1 _ rfl (hown6.alloc _) _ 1 1 [.string (⟨#[]⟩:ByteArray)] rfl (by first | exact reads_new _ _ _ | exact reads_new_at _ _ _ _ (by simp)) (one_text (⟨#[]⟩:ByteArray)) hs1 hs2 (by simp;omega) ?_
                  intro A3 c3 w7 hown7 hb7 hg7 hc7 hm7)
     rw [show txs out++[Value.string (⟨#[]⟩:ByteArray)]=txs (out++[(⟨#[]⟩:ByteArray)]) from by simp [txs]] at hown7
     have hcut7:=(Hcut6.out.alloc (.cells #[.string (⟨#[]⟩:ByteArray)] 9)).apart (hown6.alloc _) (by decide) hg7
     have hB7:=(hB6.alloc hB6.size (.cells #[.string (⟨#[]⟩:ByteArray)] 9)).trans (hb7.mono (Nat.le_of_lt hwB))
     have hBs7:B<=w7.heap.size:=Nat.le_trans hBs6 (Nat.le_trans (by simp) hb7.size)
     go_roundw
     case rel=>exact ⟨k+1,no+1,A3,c3,_,by omega,by omega,by go_num,rfl,hown7,Lib.hid ⟨q,150,hcut7,.inl ⟨by decide,Hres.out⟩⟩,hB7,Lib.hid hBs7⟩
     case measure=>simp [intOf];omega
    rw [if_neg hbad] at htn2
    have hy1:rn<=u:=by omega
    have hy2:rn<d.length:=by omega
    have hds:=List.getElem?_eq_getElem hy2
    generalize d[rn]=s at hds
    have Htn:=Lib.hid htn2
    have Hds:=Lib.hid hds
    have hgb:=own_block_ne hownd4 hbook4 (by decide)
    have hrd:=own_reads hownd4
    have Hbook4:=Lib.hid hbook4
    have Hcut4:=Lib.hid hcut4
    clear htn2 hds hbad hbook4 hcut4 hk3
    go_wp2_with fail
    with_reducible refine (btext_yes gb Ad d.length cd u rn d s _ Hbook4.out hrd hdm hu hy1 hy2 Hds.out hgb).mono ?_
    rintro e w5 ⟨rfl,hw5⟩
    clear hgb hrd c24 f24
    have hall:Below w.heap.size w w5/\Book w5 gb Ad d.length cd (if rn=u then u+1 else u)/\w5.ownsRow B 9 1 (.slice A1 no c1) no (txs out)/\w5.ownsRow w.heap.size 9 1 (.slice Ad d.length cd) d.length (txs d)/\Cut w5 w.heap.size A l c q 0/\B<=w5.heap.size:=by
     subst hw5
     by_cases e:rn=u
     ·rw [if_pos e,if_pos e]
      exact ⟨hB4.setCell (p:=⟨gb,1,none⟩) hgbw _,Hbook4.out.set_ 1 _,own_far hown4 Hbook4.out (by decide) 1 _,own_far hownd4 Hbook4.out (by decide) 1 _,Hcut4.out.far (p:=⟨gb,1,none⟩) hgcb _,by simpa using hBs4⟩
     rw [if_neg e,if_neg e]
     exact ⟨hB4,Hbook4.out,hown4,hownd4,Hcut4.out,hBs4⟩
    obtain ⟨hB5,hbook5,hown5,hownd5,hcut5,hBs5⟩:=hall
    have hu6:(if rn=u then u+1 else u)<=d.length:=by split<;>omega
    clear hw5 hown4 hownd4 Hcut4 Hbook4
    generalize (if rn=u then u+1 else u)=u6 at hbook5 hu6 Htn
    have c25:=hcut5.cell 2
    have f25:=hcut5.frozen 2
    have hcut6:=hcut5.set_ 2 (.int .i64 0)
    have hown6:=own_far hown5 hcut5 (by decide) 2 (.int .i64 0)
    have hownd6:=own_far hownd5 hcut5 (by decide) 2 (.int .i64 0)
    have hbook6:=hbook5.far (p:=⟨w.heap.size,2,none⟩) hgcb.symm (.int .i64 0)
    have hB6:=hB5.setCell (p:=⟨w.heap.size,2,none⟩) (Nat.le_refl _) (.int .i64 0)
    have hBs6:B<=(w5.setCell ⟨w.heap.size,2,none⟩ (.int .i64 0)).heap.size:=by simpa using hBs5
    have Hcut6:=Lib.hid hcut6
    have Hbook6:=Lib.hid hbook6
    clear hcut5 hcut6 hbook6 hbook5 hown5 hownd5
    go_wp2_with (at_builtin
                 refine wpList_append_any _ rfl (.tmp 45) (.tmp 47) 240 rfl B 9 i0 (.string ⟨#[]⟩) 1 16 Tryz.underlying240 hi0 hz0 hz1 hz2 rfl (by decide) A1 no c1 _ rfl (hown6.alloc _) _ 1 1 [.string s] rfl (by first | exact reads_new _ _ _ | exact reads_new_at _ _ _ _ (by simp)) (one_text s) hs1 hs2 (by simp;omega) ?_
                 intro A3 c3 w7 hown7 hb7 hg7 hc7 hm7)
    rw [show txs out++[Value.string s]=txs (out++[s]) from by simp [txs]] at hown7
    have hcut7:=(Hcut6.out.alloc (.cells #[.string s] 9)).apart (hown6.alloc _) (by decide) hg7
    have hB7:=(hB6.alloc hB6.size (.cells #[.string s] 9)).trans (hb7.mono (Nat.le_of_lt hwB))
    have hBs7:B<=w7.heap.size:=Nat.le_trans hBs6 (Nat.le_trans (by simp) hb7.size)
    have hbook7:=(Hbook6.out.alloc (.cells #[.string s] 9)).apart (hown6.alloc _) (by decide) hg7
    have hownd7:=own_sep (hownd6.alloc (.cells #[.string s] 9)) Hsep.out (hown6.alloc _) hg7
    have hout7:out++[s]=(ns++[rn]).filterMap (d[·]?):=by rw [outs_snoc d ns rn s Hds.out,<-Hout.out]
    have Hout7:=Lib.hid hout7
    clear hout7
    go_roundw
    case rel=>exact ⟨k+1,no+1,A3,c3,_,by omega,by omega,by go_num,rfl,hown7,Lib.hid ⟨q,0,hcut7,.inr ⟨rfl,hq,d,r,Ad,cd,u6,ns++[rn],Hd.out,hgbw,hbook7,hdc,hcm,hownd7,Hsep.out,hu6,Htn.out,Hout7.out⟩⟩,hB7,Lib.hid hBs7⟩
    case measure=>simp [intOf];omega
   rw [if_pos hre] at htn2
   have hn:((re:Int)==0)=false:=by simp;omega
   have hn2:((re:Int) != 0)=true:=by simp;omega
   have c2:=hcut4.cell 2
   have Hres:=Lib.hid (getN_num Hd.out htn2.symm)
   clear htn2 hcut4 hk3
   go_wp2
   go_region
   all_goals
    go_wp2
    go_ret3
    exact got3_err Hres.out hB4.drew
  have hkn:n-k=0:=by omega
  rw [hkn,takeNums] at htn
  have hfin:=getN_end hd htn.symm
  have Hfin:=Lib.hid hfin
  have hdm:d.length<=maxLen:=Nat.le_trans hdc hcm
  have c2:=hcut.cell 2
  have Hcut:=Lib.hid hcut
  have Hbook:=Lib.hid hbook
  have Hout:=Lib.hid hout
  clear hcut hbook hsep hout htn hfin hd
  go_wp2_with fail
  with_reducible refine (bend_any gb Ad d.length cd u _ Hbook.out hdm hu).mono ?_
  rintro e w8 ⟨rfl,hb8⟩
  have hcut8:=Hcut.out.on hb8
  have hown8:=own_below hown hb8
  have hB8:=bon hB hb8
  have f28:=hcut8.frozen 2
  have c28:=hcut8.cell 2
  by_cases hud:u<d.length
  ·rw [if_pos hud]
   have hB9:=hB8.setCell (p:=⟨w.heap.size,2,none⟩) (Nat.le_refl _) (.int .i64 150)
   have hcut9:=hcut8.set_ 2 (.int .i64 150)
   have c29:=hcut9.cell 2
   have c19:=hcut9.cell 1
   have hres:=Hfin.out
   rw [if_pos hud] at hres
   have Hres:=Lib.hid hres
   clear hres hcut8 hcut9 Hfin
   go_wp2
   go_region
   all_goals
    go_wp2
    go_ret3
    exact got3_err Hres.out hB9.drew
  rw [if_neg hud]
  have hB9:=hB8.setCell (p:=⟨w.heap.size,2,none⟩) (Nat.le_refl _) (.int .i64 0)
  have hcut9:=hcut8.set_ 2 (.int .i64 0)
  have hown9:=own_far hown8 hcut8 (by decide) 2 (.int .i64 0)
  have c29:=hcut9.cell 2
  have c19:=hcut9.cell 1
  have hres:=Hfin.out
  rw [if_neg hud,<-Hout.out,List.length_drop,Hrl.out,show l-(l-at2)=at2 from by omega] at hres
  have Hres:=Lib.hid hres
  obtain ⟨_,_,hv,h1,h2⟩:=own_shape hown9
  injection hv with hA hn' hc'
  subst hA hc'
  clear hres hcut8 hcut9 Hfin
  go_wp2
  go_region
  all_goals
   go_wp2
   go_ret3
   unfold Got3
   rw [Hres.out]
   simp only [Hlen.out]
   exact ⟨hB9.drew,A1,c1,rfl,h1,h2,own_mono hown9 (Nat.le_of_lt hwB)⟩
end Go.Proofs.YtjpjalmilfgckaaGreatDoor
namespace Go.Proofs.YtjpjalmilfgckaaGreatDoor
open Go.RowKit
theorem flatMap_mem_le {α:Type} (f:α->List UInt8):∀ (l:List α) (x:α),x∈l->(f x).length<=(l.flatMap f).length
 | y::l,x,h=>by
  rw [List.flatMap_cons,List.length_append]
  rcases List.mem_cons.1 h with rfl | h
  ·omega
  have:=flatMap_mem_le f l x h
  omega
theorem getDI_only (ys:List UInt8) (n most:Int) (t:List ByteArray) (s:Nat) (h:getDI ys n most=.ok (t,s)):(t.length:Int)=n/\t.length<=1048576/\s<=ys.length/\putD t=ys.take s/\∀ x∈t,x.size<=ys.length:=by
 unfold getDI at h
 split at h
 ·cases h
 rename_i hn
 unfold getN at h
 rcases hd:dictL ys n.toNat most with e | ⟨d,r⟩
 ·rw [hd] at h;cases h
 rw [hd] at h
 simp only at h
 rcases hk:takeNums d.length n.toNat r 0 [] with e | ⟨u,ns,q⟩
 ·rw [hk] at h;cases h
 rw [hk] at h
 simp only at h
 split at h
 ·cases h
 rename_i hu
 injection h with h
 injection h with h1 h2
 obtain ⟨ns',e1,e2,e3,e4,e5⟩:=takeNums_only _ _ _ _ _ _ _ _ hk
 rw [List.nil_append] at e1
 subst e1
 unfold dictL at hd
 split at hd
 ·cases hd
 rename_i h0
 split at hd
 ·cases hd
 obtain ⟨t',f1,f2,f3,f4⟩:=takeTexts_only _ _ _ _ _ _ hd
 rw [List.nil_append] at f1
 subst f1
 have hnd:=f4 List.nodup_nil
 have hb:=get_take ys (by simpa using h0)
 have hall:=map_some_of d ns e5
 obtain ⟨g1,g2⟩:=split_of_used d hnd ns 0 u [] _ (Nat.zero_le _) hall e4
 have hud:u=d.length:=by omega
 have hs:splitL t=(d,ns):=by
  subst h1
  unfold splitL
  rw [List.take_zero] at g2
  rw [g2,hud,List.take_length]
  rfl
 have htl:t.length=ns.length:=by
  have:=(splitL_len t).2
  rw [hs] at this
  exact this.symm
 have hput:ys=putD t++q:=by
  unfold putD
  rw [hs]
  simp only
  rw [f2,List.append_assoc,List.append_assoc,<-e3,<-f3]
  exact hb
 have hsz:s=(putD t).length:=by
  rw [<-h2]
  have:=congrArg List.length hput
  rw [List.length_append] at this
  omega
 have hle:=congrArg List.length hput
 rw [List.length_append] at hle
 refine ⟨by omega,by omega,by omega,?_,fun x hx=>?_⟩
 ·rw [hsz]
  conv=>rhs;rw [hput]
  rw [List.take_left]
 obtain ⟨-,-,k3⟩:=splitL_used t
 rw [hs] at k3
 have hm:some x∈ns.map (d[·]?):=by rw [k3];exact List.mem_map_of_mem hx
 obtain ⟨j,-,hj⟩:=List.mem_map.1 hm
 have hxd:x∈d:=List.mem_of_getElem? hj
 have h5:=flatMap_mem_le putText d x hxd
 have h6:(bts x).length<=(putText x).length:=by unfold putText;rw [List.length_append];omega
 have h7:(d.flatMap putText).length<=(putD t).length:=by
  unfold putD
  rw [hs,List.length_append,List.length_append]
  simp only
  omega
 rw [bts_len] at h6
 omega
theorem split_mem (l:List ByteArray) (s:ByteArray):s∈(splitL l).1 ↔ s∈l:=by
 have:=(splitL_mem l l.length (Nat.le_refl _)).1 s
 rwa [List.take_length] at this
theorem get_putD (l:List ByteArray) (r:List UInt8) (h:l.length<18446744073709551616):get (putD l++r)=((splitL l).1.length,(leb (splitL l).1.length).length,0)/\(putD l++r).drop (leb (splitL l).1.length).length=(splitL l).1.flatMap putText++((splitL l).2.flatMap leb++r):=by
 have hl:=(splitL_len l).1
 unfold putD
 rw [List.append_assoc,List.append_assoc,List.drop_left]
 exact ⟨get_leb _ (by omega) _,rfl⟩
theorem getN_put (l:List ByteArray) (r:List UInt8) (most:Int) (h:l.length<=1048576) (hs:∀ s∈l,(s.size:Int)<=most) (hm:∀ s∈l,s.size<18446744073709551616):getN (putD l++r) l.length most=.ok (l,(putD l).length):=by
 obtain ⟨h1,h2⟩:=get_putD l r (by omega)
 obtain ⟨k1,k2,k3⟩:=splitL_used l
 have hlen:=splitL_len l
 have hdict:dictL (putD l++r) l.length most=.ok ((splitL l).1,(splitL l).2.flatMap leb++r):=by
  unfold dictL
  rw [h1]
  simp only
  rw [if_neg (by simp),if_neg (by omega),h2]
  have:=takeTexts_put most (splitL l).1 [] ((splitL l).2.flatMap leb++r) (by simpa using k1) (fun s hs'=>by rw [bts_len];exact hs s ((split_mem l s).1 hs')) (fun s hs'=>by rw [bts_len];exact hm s ((split_mem l s).1 hs'))
  rw [this,List.nil_append]
 have hnum:takeNums (splitL l).1.length l.length ((splitL l).2.flatMap leb++r) 0 []=.ok ((splitL l).1.length,(splitL l).2,r):=by
  have:=takeNums_put (splitL l).1.length (splitL l).2 0 (splitL l).1.length [] r (split_small l) (by omega) k2
  rw [hlen.2,List.nil_append] at this
  exact this
 rw [getN_end hdict hnum,if_neg (by omega)]
 have ho:(splitL l).2.filterMap ((splitL l).1[·]?)=l:=by
  have:=map_some_of (splitL l).1 (splitL l).2 (split_small l)
  rw [k3] at this
  rw [List.map_inj_right (fun _ _ e=>Option.some.inj e)] at this
  exact this.symm
 rw [ho,List.length_append,Nat.add_sub_cancel]
theorem takeTexts_err0 (most:Int):∀ (k:Nat) (b:List UInt8) (d:List ByteArray),takeTexts most k b d≠.error 0
 | 0,b,d=>by simp [takeTexts]
 | k+1,b,d=>by
  rw [takeTexts_succ]
  rcases h:takeT most b with e | ⟨s,n⟩
  ·simp only
   intro he
   injection he with he
   exact takeT_err _ _ _ h he
  simp only
  split
  ·intro he;injection he with he;omega
  exact takeTexts_err0 most k _ _
theorem takeNums_err0 (m:Nat):∀ (k:Nat) (b:List UInt8) (u:Nat) (out:List Nat),takeNums m k b u out≠.error 0
 | 0,b,u,out=>by simp [takeNums]
 | k+1,b,u,out=>by
  rw [takeNums]
  split
  ·rename_i h
   intro he
   injection he with he
   exact h he
  split
  ·intro he;injection he with he;omega
  exact takeNums_err0 m k _ _ _
theorem getDI_err0 (ys:List UInt8) (n most:Int):getDI ys n most≠.error 0:=by
 unfold getDI
 split
 ·intro he;injection he with he;omega
 unfold getN
 rcases hd:dictL ys n.toNat most with e | ⟨d,r⟩
 ·simp only
  intro he
  injection he with he
  subst he
  unfold dictL at hd
  split at hd
  ·rename_i h
   injection hd with hd
   exact h hd
  split at hd
  ·injection hd with hd;omega
  exact takeTexts_err0 _ _ _ _ hd
 simp only
 rcases hk:takeNums d.length n.toNat r 0 [] with e | ⟨u,ns,q⟩
 ·simp only
  intro he
  injection he with he
  subst he
  exact takeNums_err0 _ _ _ _ _ hk
 simp only
 split
 ·intro he;injection he with he;omega
 intro he;cases he
end Go.Proofs.YtjpjalmilfgckaaGreatDoor
namespace Go.Proofs.YtjpjalmilfgckaaGreatDoor
theorem getL_cut:∀ (f m i acc j:Nat),i+f=9->m<128 ^ (f+1)->(0<i->0<m)->m*128 ^ i<18446744073709551616->j<(lebF f m).length->getL ((lebF f m).take j) i acc=(0,0,3):=by
 intro f
 induction f with
 | zero=>
  intro m i acc j h1 h2 h3 h4 hj
  have:j=0:=by simp [lebF] at hj;omega
  subst this
  rfl
 | succ f ih=>
  intro m i acc j h1 h2 h3 h4 hj
  by_cases hm:m<128
  ·rw [lebF_small _ _ hm] at hj ⊢
   have:j=0:=by simpa using hj
   subst this
   rfl
  rw [lebF_big _ _ (by omega)] at hj ⊢
  cases j with
  | zero=>rfl
  | succ j=>
   rw [List.take_succ_cons,getL]
   have hb:(UInt8.ofNat (m % 128+128)).toNat=m % 128+128:=ofNat_toNat _ (by omega)
   rw [hb,if_neg (by omega),if_neg (by omega),if_neg (by omega)]
   refine ih (m / 128) (i+1) _ j (by omega) ?_ (fun _=>by omega) ?_ (by simpa using hj)
   ·rw [Nat.pow_succ] at h2
    omega
   refine Nat.lt_of_le_of_lt ?_ h4
   rw [Nat.pow_succ,<-Nat.mul_assoc,Nat.mul_right_comm]
   exact Nat.mul_le_mul_right _ (Nat.div_mul_le_self _ _)
theorem get_cut (n j:Nat) (hn:n<18446744073709551616) (hj:j<(leb n).length):get ((leb n).take j)=(0,0,3):=
 getL_cut 9 n 0 0 j rfl (by omega) (fun h=>absurd h (by omega)) (by omega) hj
end Go.Proofs.YtjpjalmilfgckaaGreatDoor
