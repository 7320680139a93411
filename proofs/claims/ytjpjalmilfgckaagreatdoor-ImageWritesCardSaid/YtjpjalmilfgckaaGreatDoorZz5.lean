/- Part 5 of the walks. Conditions: each lemma states its own. -/
import Derived.Test.YtjpjalmilfgckaaGreatDoorZz4
import Derived.Deep.LoopGhost
import Derived.WalkKit
set_option maxRecDepth 100000
set_option maxHeartbeats 4000000
set_option linter.unusedVariables false
set_option linter.unusedSimpArgs false
namespace Go.Proofs.YtjpjalmilfgckaaGreatDoor
section
open Go.RowKit
theorem qA (w:World) (v:Value) (e:TypeId) (b:Nat) (hb:b=w.heap.size):Reads (w.alloc (.cells #[v] e)) (w.alloc (.cells #[v] e)).heap.size 1 (some ⟨b,0,none⟩) 1 [v]:=by
 subst hb;exact zq w v e
theorem yg {w w1 w2:World} {r:Option Nat} (h:w.grownBy w1 r) (h2:Below w.heap.size w1 w2):w.grownBy w2 r:=
 ⟨h2.os.trans h.os,h2.tape.trans h.tape,h2.output.trans h.output,Nat.le_trans h.size h2.size,fun k hk hne=>(h2.block k hk).trans (h.block k hk hne)⟩
theorem aaP (most:Int) (b:List UInt8) (k:Nat) (h:y8 most b=.error k):k≠0:=by
 unfold y8 at h
 split at h
 ·rename_i h1;injection h with h;subst h;exact h1
 split at h
 ·injection h with h;omega
 split at h
 ·injection h with h;omega
 cases h
theorem agT (most:Int) (b:List UInt8) (s:ByteArray) (n:Nat) (h:y8 most b=.ok (s,n)):n<=b.length/\s.size<=b.length:=by
 unfold y8 at h;have hg:=Yp b
 split at h
 ·cases h
 split at h
 ·cases h
 split at h
 ·cases h
 injection h with h
 injection h with h1 h2
 subst h1 h2;refine ⟨by omega,?_⟩;rw [<-Zx,Ju,List.length_take,List.length_drop];omega
def Jk (d:List ByteArray) (s:ByteArray):Option Int:=if (zH d s).isSome then some 1 else none
theorem ahC (d:List ByteArray) (s:ByteArray) (r:ByteArray):Jk (d++[s]) r=if r=s then some 1 else Jk d r:=by
 have h:∀ d:List ByteArray,(zH d r).isSome=true ↔ r∈d:=fun d=>by
  rcases hp:zH d r with _ | k
  ·have:=(yU d r).1 hp;simp [this]
  have:=List.mem_of_getElem? (YE d r k hp);simp [this]
 unfold Jk;by_cases hr:r=s
 ·rw [if_pos hr,if_pos ((h _).2 (by simp [hr]))]
 rw [if_neg hr];by_cases hd:r∈d
 ·rw [if_pos ((h _).2 (by simp [hd])),if_pos ((h _).2 hd)]
 rw [if_neg (fun e=>?_),if_neg (fun e=>hd ((h _).1 e))];have:=(h _).1 e;simp [hd,hr] at this
def aeQ (g:Nat) (A:Option Addr) (l c:Nat) (xs:List UInt8) (r:Except Nat (List ByteArray×List UInt8)) (w:World) (e:Ending) (w':World):Prop:=
 w.grownBy w' (some g)/\match r with
  | .error k=>k≠0/\(∃ v,e=.returned v)/\∃ at2,Cut w' g A l c at2 k
  | .ok (d,q)=>∃ (gb:Nat) (A1:Option Addr) (c1 at2:Nat),e=.returned (.pointer (some ⟨gb,0,none⟩))/\w.heap.size<=gb/\at2<=l/\xs.drop at2=q/\Cut w' g A l c at2 0/\aeS w' gb A1 d.length c1 0 /\
   d.length<=c1/\c1<=maxLen/\w'.ownsRow w.heap.size 9 1 (.slice A1 d.length c1) d.length (txs d)
theorem Xr {g:Nat} {A:Option Addr} {l c k at2:Nat} {xs:List UInt8} {r:Except Nat (List ByteArray×List UInt8)} {w w':World} {v:Value} (hr:r=.error k) (hk:k≠0) (h1:w.grownBy w' (some g)) (h3:Cut w' g A l c at2 k):aeQ g A l c xs r w (.returned v) w':=by
 subst hr;exact ⟨h1,hk,⟨v,rfl⟩,at2,h3⟩
def ajD (g gm gb:Nat) (A:Option Addr) (l c:Nat) (xs:List UInt8) (most:Int) (many:Nat) (res:Except Nat (List ByteArray×List UInt8)) (w:World) (k:Nat) (wr:World):Prop:=
 w.grownBy wr (some g)/\∃ (A1:Option Addr) (nd c1 at2 er:Nat) (d:List ByteArray),nd<=many/\aeS wr gb A1 nd c1 0/\wr.ownsRow w.heap.size 9 1 (.slice A1 nd c1) nd (txs d)/\Cut wr g A l c at2 er /\
  ((er≠0/\res=.error er)\/(er=0/\nd+k=many/\at2<=l/\aiH wr gm nd nd (Jk d)/\zQ most k (xs.drop at2) d=res))
theorem aip (g:Nat) (A:Option Addr) (l c:Nat) (xs:List UInt8) (n:Nat) (most:Int) (w:World) (hb:Cut w g A l c 0 0) (hr:Reads w w.heap.size 1 A l (u8s xs)) (hl:l<=c) (hc:c<=maxLen) (hg:0<l->∀ ad,A=some ad->ad.block≠g) (hn:n<=1048576) (hm:most<=9223372036854775807) :
  Calls Tryz.prog 267 #[.pointer (some ⟨g,0,none⟩),.int .i64 (n:Int),.int .i64 most] w (aeQ g A l c xs (qk xs n most) w):=by
 obtain ⟨i0,hi0,hz0,hz1,hz2⟩:=info_parts ZX;have hgs:=Yp xs;have hrl:=zh hr;rw [hrl] at hgs;have Hrl:=za hrl;have hmm := @run_makeMap Tryz.prog;clear hrl;go_enter Tryz.func267,Tryz.ntmps267;go_wp2_with fail
 with_reducible refine (aax g A l c 0 xs _ hb hr hl hc (Nat.zero_le _)).mono ?_
 rintro e w1 ⟨rfl,hb1,hg1⟩;rw [List.drop_zero,Nat.zero_add] at *;have hdl:qk xs n most=qk xs n most:=rfl
 conv at hdl=>rhs;unfold qk
 generalize get xs=r at hgs hb1 hdl ⊢;obtain ⟨rn,rk,re⟩:=r;obtain ⟨hk1,hk2,hk3⟩:=hgs;simp only at hk1 hk2 hk3 hb1 hdl ⊢;have c2:=hb1.cell 2;have f2:=hb1.frozen 2;have hw1:=hg1.size;by_cases hre:re=0
 ·subst hre;rw [if_neg (by simp)] at hdl;by_cases hlim:n<rn
  ·rw [if_pos hlim] at hdl;have Hdl:=za hdl;have hb1s:=hb1.set_ 2 (.int .i64 5);have Hb1s:=za hb1s;have db0:decide (0<rn)=true:=(by simp;omega);clear hdl hk3 hb1 hb1s;go_wp2;have hw1s:(w1.setCell ⟨g,2,none⟩ (.int .i64 5)).heap.size=w1.heap.size:=(by simp);have hcut:=za (((Hb1s.out).alloc (.map #[] 0)).alloc (.cells #[.slice none 0 0,.int .i64 0] 333));have hbook:Blk ((w1.setCell ⟨g,2,none⟩ (.int .i64 5) |>.alloc (.map #[] 0)).alloc (.cells #[.slice none 0 0,.int .i64 0] 333)) (w1.heap.size+1) 333 #[.slice none 0 0,.int .i64 0]:=by
    have:=Blk.new (w1.setCell ⟨g,2,none⟩ (.int .i64 5) |>.alloc (.map #[] 0)) 333 #[.slice none 0 0,.int .i64 0];simpa using this
   have hgr:=hg1.trans (((qF w1 g 2 (.int .i64 5)).trans (World.grownBy_alloc _ (.map #[] 0) _)).trans (World.grownBy_alloc _ (.cells #[.slice none 0 0,.int .i64 0] 333) _));have Hbook:=za hbook;clear hmm hw1s hbook
   go_loopg [] 0 (fun _ wr=>w.grownBy wr (some g)/\Hid (Cut wr g A l c rk 5)/\Hid (Blk wr (w1.heap.size+1) 333 #[.slice none 0 0,.int .i64 0]))
   case atStart=>exact ⟨hgr,hcut,Hbook⟩
   case round=>
    clear hgr hcut Hbook c2 f2;obtain ⟨hgr,hcut,hbook⟩:=hrel;have c2:=hcut.out.cell 2;have b0:=hbook.out.cell 0;go_wp2;go_ret;exact Xr Hdl.out (by decide) hgr hcut.out
  rw [if_neg hlim] at hdl;have Hdl:=za hdl;have Hb1:=za hb1;clear hdl hk3 hb1;go_wp2;have hst0:ajD g w1.heap.size (w1.heap.size+1) A l c xs most rn (qk xs n most) w rn ((w1.alloc (.map #[] 0)).alloc (.cells #[.slice none 0 0,.int .i64 0] 333)):=by
   refine ⟨hg1.trans ((World.grownBy_alloc _ _ _).trans (World.grownBy_alloc _ _ _)),none,0,0,rk,0,[],Nat.zero_le _,?_,World.ownsRow_nil _ _ _ _,((Hb1.out).alloc _).alloc _,.inr ⟨rfl,Nat.zero_add _,by omega,?_,Hdl.out.symm⟩⟩
   ·have h:=Blk.new (w1.alloc (.map #[] 0)) 333 #[.slice none 0 0,.int .i64 0];have h2:(w1.alloc (.map #[] 0)).heap.size=w1.heap.size+1:=(by simp);rw [h2] at h;exact h
   exact (MapS.same (MapS.made w1) (fun s=>by rfl)).al _
  have Hst0:=za hst0;have hgm:w.heap.size<=w1.heap.size:=hw1;have hgb:w.heap.size<=w1.heap.size+1:=by omega
  generalize (w1.alloc (.map #[] 0)).alloc (.cells #[.slice none 0 0,.int .i64 0] 333)=w2 at Hst0 ⊢;generalize w1.heap.size+1=gb at Hst0 hgb ⊢;generalize w1.heap.size=gm at Hst0 hgm ⊢;clear hst0 hmm Hdl c2 f2 hb Hb1 hg1 hw1;have hrn:rn<=1048576:=by omega
  go_loopg [10] rn (fun k s wr=>Hid (ajD g gm gb A l c xs most rn (qk xs n most) w k wr))
  case atStart=>exact Hst0
  case round=>
   obtain ⟨hgr,A1,nd,c1,at2,er,d,hnd,hbook,hown,hcut,hst⟩:=hrel.out;clear hrel Hst0;have hgw:=hgr.size;rcases hst with ⟨her,hres⟩ | ⟨rfl,hk,hat2,hmap,hres⟩
   ·have b0:=hbook.cell 0;have c2:=hcut.cell 2;have hn:((er:Int)==0)=false:=(by simp;omega);have Hcut:=za hcut;have Hres:=za hres;have Her:=za her;clear hcut hres her hbook;by_cases hlt:nd<rn
    ·have db:decide (nd<rn)=true:=(by simp;omega);go_wp2;go_ret;exact Xr Hres.out Her.out hgr Hcut.out
    have db:decide (nd<rn)=false:=(by simp;omega);go_wp2;go_ret;exact Xr Hres.out Her.out hgr Hcut.out
   have b0:=hbook.cell 0;have c2:=hcut.cell 2;have Hcut:=za hcut;have Hres:=za hres;have Hbook:=za hbook;have Hmap:=za hmap;have Hdl:=za (show d.length=nd from by have:=hown.1;simpa using this);rcases gk with _ | k
   ·clear hcut hres hbook hmap;have db:decide (nd<rn)=false:=(by simp;omega);go_wp2;go_ret;obtain ⟨_,_,hv,h1,h2⟩:=zY hown
    injection hv with hA hn hc'
    subst hA hc';have hre:=Hres.out;rw [zQ] at hre;have hdl:=Hdl.out;subst hdl;unfold aeQ;rw [<-hre];exact ⟨hgr,gb,A1,c1,at2,rfl,hgb,hat2,rfl,Hcut.out,Hbook.out,h1,h2,hown⟩
   have db:decide (nd<rn)=true:=(by simp;omega);have hr2:=hr.other hgr hg;have hgne:g≠gb:=hcut.ne hbook (by decide);have hmg:gm≠g:=hmap.blk hcut;have hmb:gm≠gb:=hmap.blk hbook;clear hcut hres hbook hmap;(go_wp2_with fail);(with_reducible refine (agw g A l c at2 xs most _ Hcut.out hr2 hl hc hat2 hg hm).mono ?_);rintro e w5 ⟨hg5,h5⟩;have hgr5:=hgr.trans hg5;have hbook5:=Hbook.out.other hg5 hgne.symm;have hown5:=qd hown Hcut.out (by decide) hg5;have hmap5:=Hmap.out.grown hg5 (by simpa using hmg);have hres:=Hres.out;rw [XJ] at hres;have hok:=agT most (xs.drop at2);have hek:=aaP most (xs.drop at2);rw [List.length_drop,Hrl.out] at hok;generalize y8 most (xs.drop at2)=tt at h5 hres hok hek;clear b0 c2 hown Hcut Hbook Hmap Hres hr2;have hgw5:=hgr5.size;have Hbook5:=za hbook5;have Hmap5:=za hmap5;have hs1:nd+1<=maxLen:=(by simp only [maxLen];omega);have hs2:(nd+1)*16<=70368744177664:=(by omega);clear hbook5 hmap5 hg5 hgr hgw;rcases tt with er | ⟨s,ns⟩
   ·obtain ⟨rfl,at3,hat3,hcut5⟩:=h5;have her:=hek er rfl;have hn:((er:Int)==0)=false:=(by simp;omega);have Hcut5:=za hcut5;have Hres:=za (show .error er=qk xs n most from hres);have hss:(⟨#[]⟩:ByteArray).size<=maxLen:=(by decide);clear hres hok hek hcut5;rcases hp:zH d ⟨#[]⟩ with _ | j
    ·have Hat:=za (show Jk d ⟨#[]⟩=none from by unfold Jk;rw [hp];rfl);clear hp
     go_wp2_with (first
      | (at_lookup;refine y7 rfl _ _ _ rfl Hmap5.out Tryz.underlying3 Tryz.underlying9 Tryz.underlying170 (qn _) (⟨#[]⟩:ByteArray) hss none Hat.out rfl rfl ?_)
      | (at_mapUpdate
         refine yr rfl _ _ _ _ rfl Hmap5.out Tryz.underlying3 Tryz.underlying9 Tryz.underlying170 (by simp only [maxLen];omega) (⟨#[]⟩:ByteArray) hss 1 (by decide) rfl rfl rfl ?_;intro w6 hmap6 hg6;rw [Hat.out] at hmap6;have hlook6:=(hmap6.wf (t:=170) Tryz.underlying3 Tryz.underlying9 Tryz.underlying170 (qn _) (⟨#[]⟩:ByteArray) hss).2;simp only [if_true,Option.getD_some] at hlook6;have hcut6:=Hcut5.out.other hg6 hmg.symm;have hbook6:=Hbook5.out.other hg6 hmb.symm;have c26:=hcut6.cell 2;have hown6:=Xi Hmap5.out hown5 hg6;have hgr6:=yg hgr5 (Below.by_ hg6 hgr5.size hgm);replace hmap6:=za hmap6;have hgw6:=hgr6.size;skip;have hbase6:=hgr6.size;have b06:=hbook6.cell 0;have Hcut6:=za hcut6;have Hbook6:=za hbook6;clear hown5 hg6 hgr5 hcut6 hbook6 Hbook5 Hcut5)
      | (at_builtin
         refine zb _ rfl (.tmp 70) (.tmp 72) 240 rfl w.heap.size 9 i0 (.string ⟨#[]⟩) 1 16 Tryz.underlying240 hi0 hz0 hz1 hz2 rfl (by decide) A1 nd c1 _ rfl (hown6.alloc _) _ 1 1 [.string (⟨#[]⟩:ByteArray)] rfl (by first | exact zq _ _ _ | exact qA _ _ _ _ (by simp)) (yK (⟨#[]⟩:ByteArray)) hs1 hs2 (by simp;omega) ?_;intro A3 c3 w7 hown7 hb7 hg7 hc7 hm7;have hbook7:=(Hbook6.out.alloc (.cells #[.string (⟨#[]⟩:ByteArray)] 9)).apart (hown6.alloc _) (by decide) hg7;have hcut7:=(Hcut6.out.alloc (.cells #[.string (⟨#[]⟩:ByteArray)] 9)).apart (hown6.alloc _) (by decide) hg7;have hmap7:=(hmap6.out.al (.cells #[.string (⟨#[]⟩:ByteArray)] 9)).grown hg7 ((hmap6.out.al (.cells #[.string (⟨#[]⟩:ByteArray)] 9)).apart (hown6.alloc _));have hgr7:=yg (hgr6.trans (World.grownBy_alloc _ (.cells #[.string (⟨#[]⟩:ByteArray)] 9) _)) hb7;have bf7:=hbook7.frozen 0;have b07:=hbook7.cell 0;replace hmap7:=za hmap7;replace hcut7:=za hcut7;replace hbook7:=za hbook7;clear hown6 Hbook6 Hcut6 hmap6 hgr6 hg7))
     rw [show txs d++[Value.string (⟨#[]⟩:ByteArray)]=txs (d++[(⟨#[]⟩:ByteArray)]) from by simp [txs]] at hown7;have hbook8:=hbook7.out.set_ 0 (.slice A3 (nd+1) c3);have hown8:=zf hown7 hbook7.out (by decide) 0 (.slice A3 (nd+1) c3);have hcut8:=hcut7.out.far (p:=⟨gb,0,none⟩) hgne (.slice A3 (nd+1) c3);have hmap8:=hmap7.out.set (a:=⟨gb,0,none⟩) hmb (.slice A3 (nd+1) c3);have hgr8:=yg hgr7 ((Below.refl _ w7).setCell (p:=⟨gb,0,none⟩) hgb (.slice A3 (nd+1) c3));clear hown7 hbook7 hcut7 hmap7 hgr7
     go_roundg k
     case measure=>omega
     case rel=>exact za ⟨hgr8,A3,nd+1,c3,at3,er,_,by omega,hbook8,hown8,hcut8,.inl ⟨by omega,Hres.out.symm⟩⟩
    have Hat:=za (show Jk d ⟨#[]⟩=some 1 from by unfold Jk;rw [hp];rfl);clear hp
    go_wp2_with (first
     | (at_lookup;refine y7 rfl _ _ _ rfl Hmap5.out Tryz.underlying3 Tryz.underlying9 Tryz.underlying170 (qn _) (⟨#[]⟩:ByteArray) hss (some 1) Hat.out rfl rfl ?_)
     | (at_mapUpdate
        refine yr rfl _ _ _ _ rfl Hmap5.out Tryz.underlying3 Tryz.underlying9 Tryz.underlying170 (by simp only [maxLen];omega) (⟨#[]⟩:ByteArray) hss 2 (by decide) rfl rfl rfl ?_;intro w6 hmap6 hg6;rw [Hat.out] at hmap6;have hlook6:=(hmap6.wf (t:=170) Tryz.underlying3 Tryz.underlying9 Tryz.underlying170 (qn _) (⟨#[]⟩:ByteArray) hss).2;simp only [if_true,Option.getD_some] at hlook6;have hcut6:=Hcut5.out.other hg6 hmg.symm;have hbook6:=Hbook5.out.other hg6 hmb.symm;have c26:=hcut6.cell 2;have hown6:=Xi Hmap5.out hown5 hg6;have hgr6:=yg hgr5 (Below.by_ hg6 hgr5.size hgm);replace hmap6:=za hmap6;have hgw6:=hgr6.size;skip;have hbase6:=hgr6.size;have b06:=hbook6.cell 0;have Hcut6:=za hcut6;have Hbook6:=za hbook6;clear hown5 hg6 hgr5 hcut6 hbook6 Hbook5 Hcut5)
     | (at_builtin
        refine zb _ rfl (.tmp 70) (.tmp 72) 240 rfl w.heap.size 9 i0 (.string ⟨#[]⟩) 1 16 Tryz.underlying240 hi0 hz0 hz1 hz2 rfl (by decide) A1 nd c1 _ rfl (hown6.alloc _) _ 1 1 [.string (⟨#[]⟩:ByteArray)] rfl (by first | exact zq _ _ _ | exact qA _ _ _ _ (by simp)) (yK (⟨#[]⟩:ByteArray)) hs1 hs2 (by simp;omega) ?_;intro A3 c3 w7 hown7 hb7 hg7 hc7 hm7;have hbook7:=(Hbook6.out.alloc (.cells #[.string (⟨#[]⟩:ByteArray)] 9)).apart (hown6.alloc _) (by decide) hg7;have hcut7:=(Hcut6.out.alloc (.cells #[.string (⟨#[]⟩:ByteArray)] 9)).apart (hown6.alloc _) (by decide) hg7;have hmap7:=(hmap6.out.al (.cells #[.string (⟨#[]⟩:ByteArray)] 9)).grown hg7 ((hmap6.out.al (.cells #[.string (⟨#[]⟩:ByteArray)] 9)).apart (hown6.alloc _));have hgr7:=yg (hgr6.trans (World.grownBy_alloc _ (.cells #[.string (⟨#[]⟩:ByteArray)] 9) _)) hb7;have bf7:=hbook7.frozen 0;have b07:=hbook7.cell 0;replace hmap7:=za hmap7;replace hcut7:=za hcut7;replace hbook7:=za hbook7;clear hown6 Hbook6 Hcut6 hmap6 hgr6 hg7))
    rw [show txs d++[Value.string (⟨#[]⟩:ByteArray)]=txs (d++[(⟨#[]⟩:ByteArray)]) from by simp [txs]] at hown7;have hbook8:=hbook7.out.set_ 0 (.slice A3 (nd+1) c3);have hown8:=zf hown7 hbook7.out (by decide) 0 (.slice A3 (nd+1) c3);have hcut8:=hcut7.out.far (p:=⟨gb,0,none⟩) hgne (.slice A3 (nd+1) c3);have hmap8:=hmap7.out.set (a:=⟨gb,0,none⟩) hmb (.slice A3 (nd+1) c3);have hgr8:=yg hgr7 ((Below.refl _ w7).setCell (p:=⟨gb,0,none⟩) hgb (.slice A3 (nd+1) c3));clear hown7 hbook7 hcut7 hmap7 hgr7
    go_roundg k
    case measure=>omega
    case rel=>exact za ⟨hgr8,A3,nd+1,c3,at3,er,_,by omega,hbook8,hown8,hcut8,.inl ⟨by omega,Hres.out.symm⟩⟩
   obtain ⟨rfl,hcut5⟩:=h5;obtain ⟨hok1,hok2⟩:=hok s ns rfl;have hss:s.size<=maxLen:=(by unfold maxLen at hc ⊢;omega);have Hcut5:=za hcut5;clear hok hek hcut5;rcases hp:zH d s with _ | j
   ·have hres2:zQ most k (xs.drop (at2+ns)) (d++[s])=qk xs n most:=by
     rw [<-hres];simp only [hp,Option.isSome_none,if_false,Bool.false_eq_true,List.drop_drop]
    have Hres:=za hres2;have Hat:=za (show Jk d s=none from by unfold Jk;rw [hp];rfl);have Hput:=za (ahC d s);clear hp hres hres2
    go_wp2_with (first
     | (at_lookup;refine y7 rfl _ _ _ rfl Hmap5.out Tryz.underlying3 Tryz.underlying9 Tryz.underlying170 (qn _) s hss none Hat.out rfl rfl ?_)
     | (at_mapUpdate
        refine yr rfl _ _ _ _ rfl Hmap5.out Tryz.underlying3 Tryz.underlying9 Tryz.underlying170 (by simp only [maxLen];omega) s hss 1 (by decide) rfl rfl rfl ?_;intro w6 hmap6 hg6;rw [Hat.out] at hmap6;have hlook6:=(hmap6.wf (t:=170) Tryz.underlying3 Tryz.underlying9 Tryz.underlying170 (qn _) s hss).2;simp only [if_true,Option.getD_some] at hlook6;have hcut6:=Hcut5.out.other hg6 hmg.symm;have hbook6:=Hbook5.out.other hg6 hmb.symm;have c26:=hcut6.cell 2;have hown6:=Xi Hmap5.out hown5 hg6;have hgr6:=yg hgr5 (Below.by_ hg6 hgr5.size hgm);replace hmap6:=za hmap6;have hgw6:=hgr6.size;skip;have hbase6:=hgr6.size;have b06:=hbook6.cell 0;have Hcut6:=za hcut6;have Hbook6:=za hbook6;clear hown5 hg6 hgr5 hcut6 hbook6 Hbook5 Hcut5)
     | (at_builtin
        refine zb _ rfl (.tmp 70) (.tmp 72) 240 rfl w.heap.size 9 i0 (.string ⟨#[]⟩) 1 16 Tryz.underlying240 hi0 hz0 hz1 hz2 rfl (by decide) A1 nd c1 _ rfl (hown6.alloc _) _ 1 1 [.string s] rfl (by first | exact zq _ _ _ | exact qA _ _ _ _ (by simp)) (yK s) hs1 hs2 (by simp;omega) ?_;intro A3 c3 w7 hown7 hb7 hg7 hc7 hm7;have hbook7:=(Hbook6.out.alloc (.cells #[.string s] 9)).apart (hown6.alloc _) (by decide) hg7;have hcut7:=(Hcut6.out.alloc (.cells #[.string s] 9)).apart (hown6.alloc _) (by decide) hg7;have hmap7:=(hmap6.out.al (.cells #[.string s] 9)).grown hg7 ((hmap6.out.al (.cells #[.string s] 9)).apart (hown6.alloc _));have hgr7:=yg (hgr6.trans (World.grownBy_alloc _ (.cells #[.string s] 9) _)) hb7;have bf7:=hbook7.frozen 0;have b07:=hbook7.cell 0;replace hmap7:=za hmap7;replace hcut7:=za hcut7;replace hbook7:=za hbook7;clear hown6 Hbook6 Hcut6 hmap6 hgr6 hg7))
    rw [show txs d++[Value.string s]=txs (d++[s]) from by simp [txs]] at hown7;have hbook8:=hbook7.out.set_ 0 (.slice A3 (nd+1) c3);have hown8:=zf hown7 hbook7.out (by decide) 0 (.slice A3 (nd+1) c3);have hcut8:=hcut7.out.far (p:=⟨gb,0,none⟩) hgne (.slice A3 (nd+1) c3);have hmap8:=hmap7.out.set (a:=⟨gb,0,none⟩) hmb (.slice A3 (nd+1) c3);have hgr8:=yg hgr7 ((Below.refl _ w7).setCell (p:=⟨gb,0,none⟩) hgb (.slice A3 (nd+1) c3));clear hown7 hbook7 hcut7 hmap7 hgr7
    go_roundg k
    case measure=>omega
    case rel=>exact za ⟨hgr8,A3,nd+1,c3,at2+ns,0,_,by omega,hbook8,hown8,hcut8,.inr ⟨rfl,by omega,by omega,MapS.same hmap8 (fun r=>Hput.out r),Hres.out⟩⟩
   have hres2:qk xs n most=.error 150:=by
    rw [<-hres];simp only [hp,Option.isSome_some,if_true]
   have Hres:=za hres2;have Hat:=za (show Jk d s=some 1 from by unfold Jk;rw [hp];rfl);clear hp hres hres2
   go_wp2_with (first
    | (at_lookup;refine y7 rfl _ _ _ rfl Hmap5.out Tryz.underlying3 Tryz.underlying9 Tryz.underlying170 (qn _) s hss (some 1) Hat.out rfl rfl ?_)
    | (at_mapUpdate
       refine yr rfl _ _ _ _ rfl Hmap5.out Tryz.underlying3 Tryz.underlying9 Tryz.underlying170 (by simp only [maxLen];omega) s hss 2 (by decide) rfl rfl rfl ?_;intro w6 hmap6 hg6;rw [Hat.out] at hmap6;have hlook6:=(hmap6.wf (t:=170) Tryz.underlying3 Tryz.underlying9 Tryz.underlying170 (qn _) s hss).2;simp only [if_true,Option.getD_some] at hlook6;have hcut6:=Hcut5.out.other hg6 hmg.symm;have hbook6:=Hbook5.out.other hg6 hmb.symm;have c26:=hcut6.cell 2;have hown6:=Xi Hmap5.out hown5 hg6;have hgr6:=yg hgr5 (Below.by_ hg6 hgr5.size hgm);replace hmap6:=za hmap6;have hgw6:=hgr6.size;have f26:=hcut6.frozen 2;replace hbook6:=hbook6.far (p:=⟨g,2,none⟩) hgne.symm (.int .i64 150);replace hown6:=zf hown6 hcut6 (by decide) 2 (.int .i64 150);replace hmap6:=za (hmap6.out.set (a:=⟨g,2,none⟩) hmg (.int .i64 150));replace hgr6:=hgr6.trans (qF w6 g 2 (.int .i64 150));replace hcut6:=hcut6.set_ 2 (.int .i64 150);have hbase6:=hgr6.size;have b06:=hbook6.cell 0;have Hcut6:=za hcut6;have Hbook6:=za hbook6;clear hown5 hg6 hgr5 hcut6 hbook6 Hbook5 Hcut5)
    | (at_builtin
       refine zb _ rfl (.tmp 70) (.tmp 72) 240 rfl w.heap.size 9 i0 (.string ⟨#[]⟩) 1 16 Tryz.underlying240 hi0 hz0 hz1 hz2 rfl (by decide) A1 nd c1 _ rfl (hown6.alloc _) _ 1 1 [.string s] rfl (by first | exact zq _ _ _ | exact qA _ _ _ _ (by simp)) (yK s) hs1 hs2 (by simp;omega) ?_;intro A3 c3 w7 hown7 hb7 hg7 hc7 hm7;have hbook7:=(Hbook6.out.alloc (.cells #[.string s] 9)).apart (hown6.alloc _) (by decide) hg7;have hcut7:=(Hcut6.out.alloc (.cells #[.string s] 9)).apart (hown6.alloc _) (by decide) hg7;have hmap7:=(hmap6.out.al (.cells #[.string s] 9)).grown hg7 ((hmap6.out.al (.cells #[.string s] 9)).apart (hown6.alloc _));have hgr7:=yg (hgr6.trans (World.grownBy_alloc _ (.cells #[.string s] 9) _)) hb7;have bf7:=hbook7.frozen 0;have b07:=hbook7.cell 0;replace hmap7:=za hmap7;replace hcut7:=za hcut7;replace hbook7:=za hbook7;clear hown6 Hbook6 Hcut6 hmap6 hgr6 hg7))
   rw [show txs d++[Value.string s]=txs (d++[s]) from by simp [txs]] at hown7;have hbook8:=hbook7.out.set_ 0 (.slice A3 (nd+1) c3);have hown8:=zf hown7 hbook7.out (by decide) 0 (.slice A3 (nd+1) c3);have hcut8:=hcut7.out.far (p:=⟨gb,0,none⟩) hgne (.slice A3 (nd+1) c3);have hmap8:=hmap7.out.set (a:=⟨gb,0,none⟩) hmb (.slice A3 (nd+1) c3);have hgr8:=yg hgr7 ((Below.refl _ w7).setCell (p:=⟨gb,0,none⟩) hgb (.slice A3 (nd+1) c3));clear hown7 hbook7 hcut7 hmap7 hgr7
   go_roundg k
   case measure=>omega
   case rel=>exact za ⟨hgr8,A3,nd+1,c3,at2+ns,150,_,by omega,hbook8,hown8,hcut8,.inl ⟨by decide,Hres.out⟩⟩
 rw [if_pos hre] at hdl;obtain ⟨rfl,rfl⟩:=hk3 hre;have hn:((re:Int)==0)=false:=by simp;omega
 have hn2:((re:Int) != 0)=true:=by simp;omega
 have Hdl:=za hdl;have Hb1:=za hb1;have Hre:=za hre;clear hdl hk3 hb1 hre;go_wp2;have hcut:=za (((Hb1.out).alloc (.map #[] 0)).alloc (.cells #[.slice none 0 0,.int .i64 0] 333));have hbook:Blk ((w1.alloc (.map #[] 0)).alloc (.cells #[.slice none 0 0,.int .i64 0] 333)) (w1.heap.size+1) 333 #[.slice none 0 0,.int .i64 0]:=by
  have:=Blk.new (w1.alloc (.map #[] 0)) 333 #[.slice none 0 0,.int .i64 0];simpa using this
 have hgr:=hg1.trans ((World.grownBy_alloc _ (.map #[] 0) _).trans (World.grownBy_alloc _ (.cells #[.slice none 0 0,.int .i64 0] 333) _));have Hbook:=za hbook;clear hmm hbook
 go_loopg [] 0 (fun _ wr=>w.grownBy wr (some g)/\Hid (Cut wr g A l c 0 re)/\Hid (Blk wr (w1.heap.size+1) 333 #[.slice none 0 0,.int .i64 0]))
 case atStart=>exact ⟨hgr,hcut,Hbook⟩
 case round=>
  clear hgr hcut Hbook c2 f2;obtain ⟨hgr,hcut,hbook⟩:=hrel;have c2:=hcut.out.cell 2;have b0:=hbook.out.cell 0;go_wp2;go_ret;exact Xr Hdl.out Hre.out hgr hcut.out
end
section
open Go.RowKit
theorem abJ {w:World} {base n c g:Nat} {e t:TypeId} {A:Option Addr} {xs:List Value} {cs:Array Value} (h:w.ownsRow base e 1 (.slice A n c) n xs) (hb:Blk w g t cs) (hne:e≠t):∀ ad,A=some ad->ad.block≠g:=by
 rintro ad rfl;rcases h.2 with ⟨h0,_⟩ | ⟨g2,cap,cur,hv,h1,h2,h3⟩
 ·cases h0
 injection hv with hA
 injection hA with hA
 subst hA;rintro rfl;unfold Blk at hb;rw [h2] at hb
 injection hb with hb
 injection hb with _ h4
 exact hne h4
theorem abI {w w':World} {base B:Nat} {e e2:TypeId} {v v2:Value} {n n2 size size2:Nat} {xs ys:List Value} (h:w.ownsRow base e size v n xs) (hB:∀ k,v.ownBlock=some k->k<B) (h2:w.ownsRow B e2 size2 v2 n2 ys) (hg:w.grownBy w' v2.ownBlock):w'.ownsRow base e size v n xs:=by
 refine h.kept hg ?_;rcases hv:v.ownBlock with _ | k
 ·exact .inl rfl
 right;have:=hB k hv;rcases hv2:v2.ownBlock with _ | k2
 ·simp
 have:=(h2.lt k2 hv2).1;simp only [ne_eq,Option.some.injEq];omega
def ajC (gc gb B:Nat) (A:Option Addr) (l c:Nat) (xs:List UInt8) (most:Int) (n:Nat) (w:World) (k:Nat) (out:List ByteArray) (wr:World):Prop:=
 ∃ at2 er,Cut wr gc A l c at2 er/\((er≠0/\UV xs n most=.error er)\/(er=0/\at2<=l/\∃ (d:List ByteArray) (r:List UInt8) (Ad:Option Addr) (cd u:Nat) (ns:List Nat),qk xs n most=.ok (d,r)/\w.heap.size<=gb/\aeS wr gb Ad d.length cd u/\d.length<=cd/\cd<=maxLen /\
  wr.ownsRow w.heap.size 9 1 (.slice Ad d.length cd) d.length (txs d)/\(∀ q,(Value.slice Ad d.length cd).ownBlock=some q->q<B)/\u<=d.length/\zT d.length k (xs.drop at2) u ns=zT d.length n r 0 []/\out=ns.filterMap (d[·]?)))
def akf (r:Except Nat (List ByteArray×Nat)) (w:World) (e:Ending) (w':World):Prop:=
 Below w.heap.size w w'/\match r with
  | .error k=>e=.returned (.tuple #[.slice none 0 0,.int .i64 0,.int .i64 (k:Int)])
  | .ok (l,size)=>∃ (A:Option Addr) (c:Nat),e=.returned (.tuple #[.slice A l.length c,.int .i64 (size:Int),.int .i64 0])/\l.length<=c/\c<=maxLen/\w'.ownsRow w.heap.size 9 1 (.slice A l.length c) l.length (txs l)
theorem Va {r:Except Nat (List ByteArray×Nat)} {k:Nat} {w w':World} (hr:r=.error k) (h:Below w.heap.size w w'):akf r w (.returned (.tuple #[.slice none 0 0,.int .i64 0,.int .i64 (k:Int)])) w':=by
 subst hr;exact ⟨h,rfl⟩
theorem agn (xs:List UInt8) (n most:Int) (h:n<0\/1048576<n):ZC xs n most=.error 6:=by
 unfold ZC;rw [if_pos h]
theorem ah0 (xs:List UInt8) (n:Nat) (most:Int) (h:n<=1048576):ZC xs (n:Int) most=UV xs n most:=by
 unfold ZC;rw [if_neg (by omega),Int.toNat_natCast]
theorem agk {xs:List UInt8} {n:Nat} {most:Int} {k:Nat} (h:qk xs n most=.error k):UV xs n most=.error k:=by
 unfold UV;rw [h]
theorem acX {xs:List UInt8} {n:Nat} {most:Int} {k:Nat} {d:List ByteArray} {r:List UInt8} (h:qk xs n most=.ok (d,r)) (h2:zT d.length n r 0 []=.error k):UV xs n most=.error k:=by
 unfold UV;rw [h];simp only [h2]
theorem acY {xs:List UInt8} {n:Nat} {most:Int} {d:List ByteArray} {r q:List UInt8} {u:Nat} {ns:List Nat} (h:qk xs n most=.ok (d,r)) (h2:zT d.length n r 0 []=.ok (u,ns,q)):UV xs n most=if u<d.length then .error 150 else .ok (ns.filterMap (d[·]?),xs.length-q.length):=by
 unfold UV;rw [h];simp only [h2]
theorem ah6 (A:Option Addr) (l c:Nat) (xs:List UInt8) (n most:Int) (w:World) (hr:Reads w w.heap.size 1 A l (u8s xs)) (hl:l<=c) (hc:c<=maxLen) (hn1 : -9223372036854775808<=n) (hn2:n<=9223372036854775807) (hm:most<=9223372036854775807) :
  Calls Tryz.prog 244 #[.slice A l c,.int .i64 n,.int .i64 most] w (akf (ZC xs n most) w):=by
 obtain ⟨i0,hi0,hz0,hz1,hz2⟩:=info_parts ZX;have Hrl:=za (zh hr);by_cases hn:n<0\/1048576<n
 ·rw [agn xs n most hn];rcases hn with hn | hn;all_goals
   go_enter Tryz.func244,Tryz.ntmps244;go_wp2
   go_ret3
   exact Va rfl (Below.refl _ _)
 obtain ⟨n,rfl⟩:=Int.eq_ofNat_of_zero_le (by omega:0<=n);rw [ah0 xs n most (by omega)];have hnn:n<=1048576:=by omega
 clear hn hn1 hn2;go_enter Tryz.func244,Tryz.ntmps244;go_wp2_with fail
 have hb0:Cut (w.alloc (.cells #[.slice A l c,.int .i64 0,.int .i64 0] 309)) w.heap.size A l c 0 0:=Blk.new w _ _;have hne:0<l->∀ ad,A=some ad->ad.block≠w.heap.size:=by
  rintro h0 ad rfl;obtain ⟨ad',e,hlt',-⟩:=hr.2 h0;obtain rfl:=Option.some.inj e;omega
 have hr0:=hr.al (.cells #[.slice A l c,.int .i64 0,.int .i64 0] 309);have hB0:=bal (Below.refl w.heap.size w) (.cells #[.slice A l c,.int .i64 0,.int .i64 0] 309);have hs0:w.heap.size<(w.alloc (.cells #[.slice A l c,.int .i64 0,.int .i64 0] 309)).heap.size:=by simp
 with_reducible refine (aip w.heap.size A l c xs n most _ hb0 hr0 hl hc hne hnn hm).mono ?_
 rintro e w3 ⟨hg3,h3⟩;generalize w.alloc (.cells #[.slice A l c,.int .i64 0,.int .i64 0] 309)=w1 at hg3 hr0 hB0 hb0 hs0 h3;have hB3:Below w.heap.size w w3:=hB0.trans (Below.by_ hg3 hB0.size (Nat.le_refl _));have hstart:∃ (v:Value) (gb:Nat),e=.returned v/\ajC w.heap.size gb w3.heap.size A l c xs most n w n [] w3/\((∃ k,qk xs n most=.error k)\/v=.pointer (some ⟨gb,0,none⟩)):=by
  rcases hd:qk xs n most with k | ⟨d,r⟩
  ·rw [hd] at h3;obtain ⟨hk,⟨v,rfl⟩,at2,hcut⟩:=h3;exact ⟨v,0,rfl,⟨at2,k,hcut,.inl ⟨hk,agk hd⟩⟩,.inl ⟨k,rfl⟩⟩
  rw [hd] at h3;obtain ⟨gb,A1,c1,at2,rfl,h4,h5,rfl,h6,h7,h8,h9,h10⟩:=h3;refine ⟨_,gb,rfl,⟨at2,0,h6,.inr ⟨rfl,h5,d,_,A1,c1,0,[],hd,Nat.le_trans (Nat.le_of_lt hs0) h4,h7,h8,h9,zi h10 (Nat.le_of_lt hs0),fun q hq=>(h10.lt q hq).2,Nat.zero_le _,rfl,rfl⟩⟩,.inr rfl⟩
 obtain ⟨v,gb,rfl,hst,hv⟩:=hstart;have hwB:w.heap.size<w3.heap.size:=Nat.lt_of_lt_of_le hs0 hg3.size;have Hst:=za hst;have Hv:=za hv;obtain ⟨B,hBB⟩:∃ B,B=w3.heap.size:=⟨_,rfl⟩;rw [<-hBB] at Hst hwB;have HBr:=za (Nat.le_of_eq hBB);clear hBB;clear h3 hst hv hg3 hb0 hB0 hr0 hs0;go_wp2
 go_loopw [6,27] (fun u i wr=>∃ (k no:Nat) (A1:Option Addr) (c1:Nat) (out:List ByteArray),k<=n/\no<=k/\i=.int .i64 (k:Int)/\u=.slice A1 no c1/\wr.ownsRow B 9 1 (.slice A1 no c1) no (txs out) /\
  Hid (ajC w.heap.size gb B A l c xs most n w (n-k) out wr)/\Below w.heap.size w wr/\Hid (B<=wr.heap.size)) (fun _ i _=>n-(intOf i).toNat)
 case atStart=>exact ⟨0,0,none,0,[],Nat.zero_le _,Nat.le_refl _,rfl,rfl,World.ownsRow_nil _ _ _ _,Hst,hB3,HBr⟩
 case round=>
  clear Hst hB3;obtain ⟨k,no,A1,c1,out,hk,hno,rfl,rfl,hown,hst,hB,hBs⟩:=hrel;obtain ⟨at2,er,hcut,hcase⟩:=hst.out;clear hst;have hlen:out.length=no:=by have:=hown.1;simpa using this
  have Hlen:=za hlen;clear hlen;rcases hcase with ⟨her,hres⟩ | ⟨rfl,hat2,d,r,Ad,cd,u,ns,hd,hgbw,hbook,hdc,hcm,hownd,hsep,hu,htn,hout⟩
  ·have hn:((er:Int)==0)=false:=(by simp;omega);have hn2:((er:Int) != 0)=true:=(by simp;omega);have c2:=hcut.cell 2;have Hres:=za hres;have Hcut:=za hcut;clear hres hcut;by_cases hlt:k<n
   ·(go_wp2_with fail);(with_reducible refine (aif w.heap.size A l c at2 er _ Hcut.out her).mono ?_);rintro e w' ⟨rfl,rfl⟩;go_wp2;go_region;all_goals
     go_wp2
     go_ret3
     exact Va Hres.out hB.drew
   go_wp2;go_region;all_goals
    go_wp2
    go_ret3
    exact Va Hres.out hB.drew
  obtain rfl:v=.pointer (some ⟨gb,0,none⟩):=Hv.out.resolve_left (by rintro ⟨k,hk⟩;rw [hk] at hd;cases hd);by_cases hlt:k<n
  ·have hrw:Reads wr wr.heap.size 1 A l (u8s xs):=(hr.below hB).more hB.size;have htn2:=htn;rw [show n-k=(n-(k+1))+1 from by omega,zT] at htn2;have hgs:=Yp (xs.drop at2);rw [List.length_drop,Hrl.out] at hgs;have hgcb:w.heap.size≠gb:=hcut.ne hbook (by decide);have Hcut:=za hcut;have Hd:=za hd;have Hbook:=za hbook;have Hsep:=za hsep;have Hout:=za hout;have hbs:=hBs.out;have hdm:d.length<=maxLen:=Nat.le_trans hdc hcm;clear hcut hd hbook hsep hout htn;(go_wp2_with fail);(with_reducible refine (aax w.heap.size A l c at2 xs _ Hcut.out hrw hl hc hat2).mono ?_);rintro e w4 ⟨rfl,hcut4,hg4⟩;have hB4:=hB.trans (Below.by_ hg4 hB.size (Nat.le_refl _));have hbook4:=Hbook.out.other hg4 hgcb.symm;have hown4:=qd hown Hcut.out (by decide) hg4;have hownd4:=qd hownd Hcut.out (by decide) hg4;have hBs4:B<=w4.heap.size:=Nat.le_trans hbs hg4.size;rw [show (xs.drop at2).drop (get (xs.drop at2)).2.1=xs.drop (at2+(get (xs.drop at2)).2.1) from by rw [List.drop_drop]] at htn2;generalize get (xs.drop at2)=rr at hgs hcut4 htn2 ⊢;obtain ⟨rn,rk,re⟩:=rr;obtain ⟨hk1,hk2,hk3⟩:=hgs;simp only at hk1 hk2 hk3 hcut4 htn2 ⊢;have hq:at2+rk<=l:=(by omega);generalize at2+rk=q at hcut4 htn2 hq;clear hg4 hrw Hcut Hbook hown hownd;by_cases hre:re=0
   ·subst hre;rw [if_neg (by simp)] at htn2;have c24:=hcut4.cell 2;have f24:=hcut4.frozen 2;have hs1:no+1<=maxLen:=(by simp only [maxLen];omega);have hs2:(no+1)*16<=70368744177664:=(by omega);by_cases hbad:d.length<=rn\/u<rn
    ·rw [if_pos hbad] at htn2;have Hres:=za (acX Hd.out htn2.symm);have hcut6:=hcut4.set_ 2 (.int .i64 150);have hown6:=zf hown4 hcut4 (by decide) 2 (.int .i64 150);have hB6:=hB4.setCell (p:=⟨w.heap.size,2,none⟩) (Nat.le_refl _) (.int .i64 150);have hBs6:B<=(w4.setCell ⟨w.heap.size,2,none⟩ (.int .i64 150)).heap.size:=(by simpa using hBs4);have Hcut6:=za hcut6;have Hbook4:=za hbook4;clear htn2 hcut4 hcut6 hownd4 hbook4 hown4 hk3;(go_wp2_with fail);(with_reducible refine (aiu gb Ad d.length cd u (rn:Int) _ Hbook4.out hdm hu (by omega)).mono ?_);rintro e w' ⟨rfl,rfl⟩
     go_wp2_with (at_builtin
                  refine zb _ rfl (.tmp 45) (.tmp 47) 240 rfl B 9 i0 (.string ⟨#[]⟩) 1 16 Tryz.underlying240 hi0 hz0 hz1 hz2 rfl (by decide) A1 no c1 _ rfl (hown6.alloc _) _ 1 1 [.string (⟨#[]⟩:ByteArray)] rfl (by first | exact zq _ _ _ | exact qA _ _ _ _ (by simp)) (yK (⟨#[]⟩:ByteArray)) hs1 hs2 (by simp;omega) ?_;intro A3 c3 w7 hown7 hb7 hg7 hc7 hm7)
     rw [show txs out++[Value.string (⟨#[]⟩:ByteArray)]=txs (out++[(⟨#[]⟩:ByteArray)]) from by simp [txs]] at hown7;have hcut7:=(Hcut6.out.alloc (.cells #[.string (⟨#[]⟩:ByteArray)] 9)).apart (hown6.alloc _) (by decide) hg7;have hB7:=(hB6.alloc hB6.size (.cells #[.string (⟨#[]⟩:ByteArray)] 9)).trans (hb7.mono (Nat.le_of_lt hwB));have hBs7:B<=w7.heap.size:=Nat.le_trans hBs6 (Nat.le_trans (by simp) hb7.size);go_roundw;case rel=>exact ⟨k+1,no+1,A3,c3,_,by omega,by omega,by go_num,rfl,hown7,za ⟨q,150,hcut7,.inl ⟨by decide,Hres.out⟩⟩,hB7,za hBs7⟩
     case measure=>simp [intOf];omega
    rw [if_neg hbad] at htn2;have hy1:rn<=u:=(by omega);have hy2:rn<d.length:=(by omega);have hds:=List.getElem?_eq_getElem hy2;generalize d[rn]=s at hds;have Htn:=za htn2;have Hds:=za hds;have hgb:=abJ hownd4 hbook4 (by decide);have hrd:=ze hownd4;have Hbook4:=za hbook4;have Hcut4:=za hcut4;clear htn2 hds hbad hbook4 hcut4 hk3;(go_wp2_with fail);(with_reducible refine (agF gb Ad d.length cd u rn d s _ Hbook4.out hrd hdm hu hy1 hy2 Hds.out hgb).mono ?_);rintro e w5 ⟨rfl,hw5⟩;clear hgb hrd c24 f24;have hall:Below w.heap.size w w5/\aeS w5 gb Ad d.length cd (if rn=u then u+1 else u)/\w5.ownsRow B 9 1 (.slice A1 no c1) no (txs out)/\w5.ownsRow w.heap.size 9 1 (.slice Ad d.length cd) d.length (txs d)/\Cut w5 w.heap.size A l c q 0/\B<=w5.heap.size:=by
     subst hw5;by_cases e:rn=u
     ·rw [if_pos e,if_pos e];exact ⟨hB4.setCell (p:=⟨gb,1,none⟩) hgbw _,Hbook4.out.set_ 1 _,zf hown4 Hbook4.out (by decide) 1 _,zf hownd4 Hbook4.out (by decide) 1 _,Hcut4.out.far (p:=⟨gb,1,none⟩) hgcb _,by simpa using hBs4⟩
     rw [if_neg e,if_neg e];exact ⟨hB4,Hbook4.out,hown4,hownd4,Hcut4.out,hBs4⟩
    obtain ⟨hB5,hbook5,hown5,hownd5,hcut5,hBs5⟩:=hall;have hu6:(if rn=u then u+1 else u)<=d.length:=(by split<;>omega);clear hw5 hown4 hownd4 Hcut4 Hbook4;generalize (if rn=u then u+1 else u)=u6 at hbook5 hu6 Htn;have c25:=hcut5.cell 2;have f25:=hcut5.frozen 2;have hcut6:=hcut5.set_ 2 (.int .i64 0);have hown6:=zf hown5 hcut5 (by decide) 2 (.int .i64 0);have hownd6:=zf hownd5 hcut5 (by decide) 2 (.int .i64 0);have hbook6:=hbook5.far (p:=⟨w.heap.size,2,none⟩) hgcb.symm (.int .i64 0);have hB6:=hB5.setCell (p:=⟨w.heap.size,2,none⟩) (Nat.le_refl _) (.int .i64 0);have hBs6:B<=(w5.setCell ⟨w.heap.size,2,none⟩ (.int .i64 0)).heap.size:=(by simpa using hBs5);have Hcut6:=za hcut6;have Hbook6:=za hbook6;clear hcut5 hcut6 hbook6 hbook5 hown5 hownd5
    go_wp2_with (at_builtin
                 refine zb _ rfl (.tmp 45) (.tmp 47) 240 rfl B 9 i0 (.string ⟨#[]⟩) 1 16 Tryz.underlying240 hi0 hz0 hz1 hz2 rfl (by decide) A1 no c1 _ rfl (hown6.alloc _) _ 1 1 [.string s] rfl (by first | exact zq _ _ _ | exact qA _ _ _ _ (by simp)) (yK s) hs1 hs2 (by simp;omega) ?_;intro A3 c3 w7 hown7 hb7 hg7 hc7 hm7)
    rw [show txs out++[Value.string s]=txs (out++[s]) from by simp [txs]] at hown7;have hcut7:=(Hcut6.out.alloc (.cells #[.string s] 9)).apart (hown6.alloc _) (by decide) hg7;have hB7:=(hB6.alloc hB6.size (.cells #[.string s] 9)).trans (hb7.mono (Nat.le_of_lt hwB));have hBs7:B<=w7.heap.size:=Nat.le_trans hBs6 (Nat.le_trans (by simp) hb7.size);have hbook7:=(Hbook6.out.alloc (.cells #[.string s] 9)).apart (hown6.alloc _) (by decide) hg7;have hownd7:=abI (hownd6.alloc (.cells #[.string s] 9)) Hsep.out (hown6.alloc _) hg7;have hout7:out++[s]=(ns++[rn]).filterMap (d[·]?):=(by rw [af0 d ns rn s Hds.out,<-Hout.out]);have Hout7:=za hout7;clear hout7;go_roundw;case rel=>exact ⟨k+1,no+1,A3,c3,_,by omega,by omega,by go_num,rfl,hown7,za ⟨q,0,hcut7,.inr ⟨rfl,hq,d,r,Ad,cd,u6,ns++[rn],Hd.out,hgbw,hbook7,hdc,hcm,hownd7,Hsep.out,hu6,Htn.out,Hout7.out⟩⟩,hB7,za hBs7⟩
    case measure=>simp [intOf];omega
   rw [if_pos hre] at htn2;have hn:((re:Int)==0)=false:=(by simp;omega);have hn2:((re:Int) != 0)=true:=(by simp;omega);have c2:=hcut4.cell 2;have Hres:=za (acX Hd.out htn2.symm);clear htn2 hcut4 hk3;go_wp2;go_region;all_goals
    go_wp2
    go_ret3
    exact Va Hres.out hB4.drew
  have hkn:n-k=0:=by omega
  rw [hkn,zT] at htn;have hfin:=acY hd htn.symm;have Hfin:=za hfin;have hdm:d.length<=maxLen:=Nat.le_trans hdc hcm;have c2:=hcut.cell 2;have Hcut:=za hcut;have Hbook:=za hbook;have Hout:=za hout;clear hcut hbook hsep hout htn hfin hd;go_wp2_with fail
  with_reducible refine (aiw gb Ad d.length cd u _ Hbook.out hdm hu).mono ?_
  rintro e w8 ⟨rfl,hb8⟩;have hcut8:=Hcut.out.on hb8;have hown8:=zd hown hb8;have hB8:=bon hB hb8;have f28:=hcut8.frozen 2;have c28:=hcut8.cell 2;by_cases hud:u<d.length
  ·rw [if_pos hud];have hB9:=hB8.setCell (p:=⟨w.heap.size,2,none⟩) (Nat.le_refl _) (.int .i64 150);have hcut9:=hcut8.set_ 2 (.int .i64 150);have c29:=hcut9.cell 2;have c19:=hcut9.cell 1;have hres:=Hfin.out;rw [if_pos hud] at hres;have Hres:=za hres;clear hres hcut8 hcut9 Hfin;go_wp2;go_region;all_goals
    go_wp2
    go_ret3
    exact Va Hres.out hB9.drew
  rw [if_neg hud];have hB9:=hB8.setCell (p:=⟨w.heap.size,2,none⟩) (Nat.le_refl _) (.int .i64 0);have hcut9:=hcut8.set_ 2 (.int .i64 0);have hown9:=zf hown8 hcut8 (by decide) 2 (.int .i64 0);have c29:=hcut9.cell 2;have c19:=hcut9.cell 1;have hres:=Hfin.out;rw [if_neg hud,<-Hout.out,List.length_drop,Hrl.out,show l-(l-at2)=at2 from by omega] at hres;have Hres:=za hres;obtain ⟨_,_,hv,h1,h2⟩:=zY hown9
  injection hv with hA hn' hc'
  subst hA hc';clear hres hcut8 hcut9 Hfin;go_wp2;go_region;all_goals
   go_wp2
   go_ret3
   unfold akf;rw [Hres.out];simp only [Hlen.out];exact ⟨hB9.drew,A1,c1,rfl,h1,h2,zi hown9 (Nat.le_of_lt hwB)⟩
end
section
open Go.RowKit
theorem Vb {α:Type} (f:α->List UInt8):∀ (l:List α) (x:α),x∈l->(f x).length<=(l.flatMap f).length
 | y::l,x,h=>by
  rw [List.flatMap_cons,List.length_append];rcases List.mem_cons.1 h with rfl | h
  ·omega
  have:=Vb f l x h;omega
theorem aap (ys:List UInt8) (n most:Int) (t:List ByteArray) (s:Nat) (h:ZC ys n most=.ok (t,s)):(t.length:Int)=n/\t.length<=1048576/\s<=ys.length/\qK t=ys.take s/\∀ x∈t,x.size<=ys.length:=by
 unfold ZC at h
 split at h
 ·cases h
 rename_i hn
 unfold UV at h;rcases hd:qk ys n.toNat most with e | ⟨d,r⟩
 ·rw [hd] at h;cases h
 rw [hd] at h;simp only at h;rcases hk:zT d.length n.toNat r 0 [] with e | ⟨u,ns,q⟩
 ·rw [hk] at h;cases h
 rw [hk] at h;simp only at h
 split at h
 ·cases h
 rename_i hu
 injection h with h
 injection h with h1 h2
 obtain ⟨ns',e1,e2,e3,e4,e5⟩:=VG _ _ _ _ _ _ _ _ hk;rw [List.nil_append] at e1;subst e1;unfold qk at hd
 split at hd
 ·cases hd
 rename_i h0
 split at hd
 ·cases hd
 obtain ⟨t',f1,f2,f3,f4⟩:=XK _ _ _ _ _ _ hd;rw [List.nil_append] at f1;subst f1;have hnd:=f4 List.nodup_nil;have hb:=aan ys (by simpa using h0);have hall:=X4 d ns e5;obtain ⟨g1,g2⟩:=YM d hnd ns 0 u [] _ (Nat.zero_le _) hall e4;have hud:u=d.length:=by omega
 have hs:zj t=(d,ns):=by
  subst h1;unfold zj;rw [List.take_zero] at g2;rw [g2,hud,List.take_length];rfl
 have htl:t.length=ns.length:=by
  have:=(qS t).2;rw [hs] at this;exact this.symm
 have hput:ys=qK t++q:=by
  unfold qK;rw [hs];simp only;rw [f2,List.append_assoc,List.append_assoc,<-e3,<-f3];exact hb
 have hsz:s=(qK t).length:=by
  rw [<-h2];have:=congrArg List.length hput;rw [List.length_append] at this;omega
 have hle:=congrArg List.length hput;rw [List.length_append] at hle;refine ⟨by omega,by omega,by omega,?_,fun x hx=>?_⟩
 ·rw [hsz]
  conv=>rhs;rw [hput]
  rw [List.take_left]
 obtain ⟨-,-,k3⟩:=XO t;rw [hs] at k3;have hm:some x∈ns.map (d[·]?):=by rw [k3];exact List.mem_map_of_mem hx
 obtain ⟨j,-,hj⟩:=List.mem_map.1 hm;have hxd:x∈d:=List.mem_of_getElem? hj;have h5:=Vb yp d x hxd;have h6:(bts x).length<=(yp x).length:=by unfold yp;rw [List.length_append];omega
 have h7:(d.flatMap yp).length<=(qK t).length:=by
  unfold qK;rw [hs,List.length_append,List.length_append];simp only;omega
 rw [Zx] at h6;omega
theorem UI (l:List ByteArray) (s:ByteArray):s∈(zj l).1 ↔ s∈l:=by
 have:=(adE l l.length (Nat.le_refl _)).1 s;rwa [List.take_length] at this
theorem ahV (l:List ByteArray) (r:List UInt8) (h:l.length<18446744073709551616):get (qK l++r)=((zj l).1.length,(leb (zj l).1.length).length,0)/\(qK l++r).drop (leb (zj l).1.length).length=(zj l).1.flatMap yp++((zj l).2.flatMap leb++r):=by
 have hl:=(qS l).1;unfold qK;rw [List.append_assoc,List.append_assoc,List.drop_left];exact ⟨Zj _ (by omega) _,rfl⟩
theorem ahX (l:List ByteArray) (r:List UInt8) (most:Int) (h:l.length<=1048576) (hs:∀ s∈l,(s.size:Int)<=most) (hm:∀ s∈l,s.size<18446744073709551616):UV (qK l++r) l.length most=.ok (l,(qK l).length):=by
 obtain ⟨h1,h2⟩:=ahV l r (by omega);obtain ⟨k1,k2,k3⟩:=XO l;have hlen:=qS l;have hdict:qk (qK l++r) l.length most=.ok ((zj l).1,(zj l).2.flatMap leb++r):=by
  unfold qk;rw [h1];simp only;rw [if_neg (by simp),if_neg (by omega),h2];have:=VF most (zj l).1 [] ((zj l).2.flatMap leb++r) (by simpa using k1) (fun s hs'=>by rw [Zx];exact hs s ((UI l s).1 hs')) (fun s hs'=>by rw [Zx];exact hm s ((UI l s).1 hs'));rw [this,List.nil_append]
 have hnum:zT (zj l).1.length l.length ((zj l).2.flatMap leb++r) 0 []=.ok ((zj l).1.length,(zj l).2,r):=by
  have:=V7 (zj l).1.length (zj l).2 0 (zj l).1.length [] r (Yz l) (by omega) k2;rw [hlen.2,List.nil_append] at this;exact this
 rw [acY hdict hnum,if_neg (by omega)];have ho:(zj l).2.filterMap ((zj l).1[·]?)=l:=by
  have:=X4 (zj l).1 (zj l).2 (Yz l);rw [k3] at this;rw [List.map_inj_right (fun _ _ e=>Option.some.inj e)] at this;exact this.symm
 rw [ho,List.length_append,Nat.add_sub_cancel]
theorem XL (most:Int):∀ (k:Nat) (b:List UInt8) (d:List ByteArray),zQ most k b d≠.error 0
 | 0,b,d=>by simp [zQ]
 | k+1,b,d=>by
  rw [XJ];rcases h:y8 most b with e | ⟨s,n⟩
  ·simp only;intro he
   injection he with he
   exact aaP _ _ _ h he
  simp only
  split
  ·intro he;injection he with he;omega
  exact XL most k _ _
theorem VH (m:Nat):∀ (k:Nat) (b:List UInt8) (u:Nat) (out:List Nat),zT m k b u out≠.error 0
 | 0,b,u,out=>by simp [zT]
 | k+1,b,u,out=>by
  rw [zT]
  split
  ·rename_i h
   intro he
   injection he with he
   exact h he
  split
  ·intro he;injection he with he;omega
  exact VH m k _ _ _
theorem aes (ys:List UInt8) (n most:Int):ZC ys n most≠.error 0:=by
 unfold ZC
 split
 ·intro he;injection he with he;omega
 unfold UV;rcases hd:qk ys n.toNat most with e | ⟨d,r⟩
 ·simp only;intro he
  injection he with he
  subst he;unfold qk at hd
  split at hd
  ·rename_i h
   injection hd with hd
   exact h hd
  split at hd
  ·injection hd with hd;omega
  exact XL _ _ _ _ hd
 simp only;rcases hk:zT d.length n.toNat r 0 [] with e | ⟨u,ns,q⟩
 ·simp only;intro he
  injection he with he
  subst he;exact VH _ _ _ _ _ hk
 simp only
 split
 ·intro he;injection he with he;omega
 intro he;cases he
end
section
theorem ahY:∀ (f m i acc j:Nat),i+f=9->m<128 ^ (f+1)->(0<i->0<m)->m*128 ^ i<18446744073709551616->j<(ZA f m).length->V0 ((ZA f m).take j) i acc=(0,0,3):=by
 intro f
 induction f with
 | zero=>
  intro m i acc j h1 h2 h3 h4 hj;have:j=0:=by simp [ZA] at hj;omega
  subst this;rfl
 | succ f ih=>
  intro m i acc j h1 h2 h3 h4 hj;by_cases hm:m<128
  ·rw [Yl _ _ hm] at hj ⊢;have:j=0:=(by simpa using hj);subst this;rfl
  rw [aag _ _ (by omega)] at hj ⊢;cases j with
  | zero=>rfl
  | succ j=>
   rw [List.take_succ_cons,V0];have hb:(UInt8.ofNat (m % 128+128)).toNat=m % 128+128:=Zz _ (by omega);rw [hb,if_neg (by omega),if_neg (by omega),if_neg (by omega)];refine ih (m / 128) (i+1) _ j (by omega) ?_ (fun _=>by omega) ?_ (by simpa using hj)
   ·rw [Nat.pow_succ] at h2;omega
   refine Nat.lt_of_le_of_lt ?_ h4;rw [Nat.pow_succ,<-Nat.mul_assoc,Nat.mul_right_comm];exact Nat.mul_le_mul_right _ (Nat.div_mul_le_self _ _)
theorem afd (n j:Nat) (hn:n<18446744073709551616) (hj:j<(leb n).length):get ((leb n).take j)=(0,0,3):=
 ahY 9 n 0 0 j rfl (by omega) (fun h=>absurd h (by omega)) (by omega) hj
end
section
open Go.RowKit
theorem Xy (most:Int):∀ (k:Nat) (b:List UInt8) (d d':List ByteArray) (r:List UInt8),zQ most k b d=.ok (d',r)->(∀ x∈d,(x.size:Int)<=most)->∀ x∈d',(x.size:Int)<=most
 | 0,b,d,d',r,h,hd=>by
  simp only [zQ,Except.ok.injEq,Prod.mk.injEq] at h;exact h.1 ▸ hd
 | k+1,b,d,d',r,h,hd=>by
  rw [zQ] at h
  split at h
  ·cases h
  split at h
  ·cases h
  rename_i h2
  split at h
  ·cases h
  rename_i h3
  split at h
  ·cases h
  refine Xy most k _ _ _ _ h ?_;intro x hx;rcases List.mem_append.1 hx with hx | hx
  ·exact hd x hx
  obtain rfl:x=txt ((b.drop (get b).2.1).take (get b).1):=by simpa using hx
  rw [<-Zx,Ju,List.length_take];omega
theorem Ja (ys:List UInt8) (n most:Int) (t:List ByteArray) (s:Nat) (h:ZC ys n most=.ok (t,s)):∀ x∈t,(x.size:Int)<=most:=by
 unfold ZC at h
 split at h
 ·cases h
 unfold UV at h;rcases hd:qk ys n.toNat most with e | ⟨d,r⟩
 ·rw [hd] at h;cases h
 rw [hd] at h;simp only at h;have hds:∀ x∈d,(x.size:Int)<=most:=by
  unfold qk at hd
  split at hd
  ·cases hd
  split at hd
  ·cases hd
  exact Xy most _ _ _ _ _ hd (by simp)
 rcases hk:zT d.length n.toNat r 0 [] with e | ⟨u,ns,q⟩
 ·rw [hk] at h;cases h
 rw [hk] at h;simp only at h
 split at h
 ·cases h
 injection h with h
 injection h with h1 h2
 subst h1;intro x hx;obtain ⟨j,-,hj⟩:=List.mem_filterMap.1 hx;exact hds x (List.mem_of_getElem? hj)
end
section
open Go.RowKit
structure Codec (f:List UInt8->List Cl×Nat->V3) (put:Cl->List UInt8) (P:Cl->Prop):Prop where
 there:∀ c,P c->∀ p r l,f (p++(put c++r)) (l,p.length)=.ok (l++[c],p.length+(put c).length)
 cut:∀ c,P c->∀ p j l,j<(put c).length->f (p++(put c).take j) (l,p.length)=.error 3
 only:∀ xs l s l' s',s<=xs.length->f xs (l,s)=.ok (l',s')->∃ c,P c/\l'=l++[c]/\s'<=xs.length/\xs.drop s=put c++xs.drop s'/\s'=s+(put c).length
section
variable {f:List UInt8->List Cl×Nat->V3} {put:Cl->List UInt8} {P:Cl->Prop}
theorem Codec.back (h:Codec f put P) (l:List Cl) (hP:∀ c∈l,P c) (r:List UInt8):∀ j,j<=l.length->yV (f (l.flatMap put++r)) j=.ok (l.take j,((l.take j).flatMap put).length)
 | 0,_=>by simp [yV]
 | j+1,hj=>by
  rw [VX (h.back l hP r j (by omega))];have hs:l=l.take j++l[j]::l.drop (j+1):=by
   rw [List.getElem_cons_drop,List.take_append_drop]
  have hx:l.flatMap put++r=(l.take j).flatMap put++(put l[j]++((l.drop (j+1)).flatMap put++r)):=by
   conv=>lhs;rw [hs]
   simp only [List.flatMap_append,List.flatMap_cons,List.append_assoc]
  rw [hx,h.there l[j] (hP _ (List.getElem_mem _)) _ _ _,List.take_add_one,List.getElem?_eq_getElem (by omega)];simp only [Option.toList_some,List.flatMap_append,List.flatMap_cons,List.flatMap_nil,List.append_nil,List.length_append]
theorem Codec.backs (h:Codec f put P) (l:List Cl) (hP:∀ c∈l,P c) (r:List UInt8):yV (f (l.flatMap put++r)) l.length=.ok (l,(l.flatMap put).length):=by
 have:=h.back l hP r l.length (Nat.le_refl _);rwa [List.take_length] at this
theorem Codec.onlys (h:Codec f put P) (xs:List UInt8):∀ (n:Nat) (l:List Cl) (s:Nat),yV (f xs) n=.ok (l,s)->l.length=n/\(∀ c∈l,P c)/\s<=xs.length/\s=(l.flatMap put).length/\xs=l.flatMap put++xs.drop s
 | 0,l,s,e=>by
  simp only [yV,Except.ok.injEq,Prod.mk.injEq] at e;obtain ⟨rfl,rfl⟩:=e;simp
 | n+1,l,s,e=>by
  obtain ⟨⟨l0,s0⟩,h0⟩:=ahG (n:=n) e (by omega);rw [VX h0] at e;obtain ⟨i1,i2,i3,i4,i5⟩:=h.onlys xs n l0 s0 h0;obtain ⟨c,q1,rfl,q3,q4,q5⟩:=h.only xs l0 s0 l s i3 e;refine ⟨by simp [i1],?_,q3,?_,?_⟩
  ·intro x hx;rcases List.mem_append.1 hx with hx | hx
   ·exact i2 x hx
   obtain rfl:x=c:=(by simpa using hx);exact q1
  ·rw [q5,i4];simp only [List.flatMap_append,List.flatMap_cons,List.flatMap_nil,List.append_nil,List.length_append]
  conv=>lhs;rw [i5,q4]
  simp only [List.flatMap_append,List.flatMap_cons,List.flatMap_nil,List.append_nil,List.append_assoc]
end
theorem aie (k:Int) (h2:k=2\/k=3):Codec (Yg k) (fun c=>leb (zig c.2.1)) (fun c=>c.1=false/\isC k c=true):=by
 have key:∀ c:Cl,c.1=false->isC k c=true->c=UR c.2.1 /\ -9223372036854775808<=c.2.1/\c.2.1<=9223372036854775807:=by
  rintro ⟨u,n,s⟩ hu hc;simp only at hu;subst hu;rcases h2 with rfl | rfl
  ·simp [isC] at hc;obtain ⟨rfl,h3,h4⟩:=hc;exact ⟨rfl,by simp only;omega,by simp only;omega⟩
  simp [isC] at hc;obtain ⟨rfl,h3,h4⟩:=hc;exact ⟨rfl,h3,h4⟩
 refine ⟨?_,?_,?_⟩
 ·rintro c ⟨hu,hc⟩ p r l;obtain ⟨h3,h4,h5⟩:=key c hu hc;have hg:get ((p++(leb (zig c.2.1)++r)).drop p.length)=(zig c.2.1,(leb (zig c.2.1)).length,0):=by
   rw [List.drop_left];exact Zj _ (Jw _ h4 h5) _
  unfold Yg;simp only;rw [hg];simp only [aeT,if_true];rw [<-h3,if_pos hc]
 ·rintro c ⟨hu,hc⟩ p j l hj;obtain ⟨h3,h4,h5⟩:=key c hu hc;have hg:get ((p++(leb (zig c.2.1)).take j).drop p.length)=(0,0,3):=by
   rw [List.drop_left];exact afd _ _ (Jw _ h4 h5) hj
  unfold Yg;simp only;rw [hg];simp
 intro xs l s l' s' hs h;unfold Yg at h;simp only at h;rcases qt (xs.drop s) with ⟨n,e,q1,q2,q3⟩ | ⟨e,q1,q2,-⟩
 ·rw [e] at h;simp only [if_true] at h
  split at h
  ·rename_i hc
   injection h with h
   injection h with e1 e2
   rw [List.length_drop] at q2;refine ⟨UR (zag n),⟨rfl,hc⟩,e1.symm,by omega,?_,?_⟩
   ·simp only [UR,abu];rw [<-e2,<-List.drop_drop]
    conv=>lhs;rw [<-List.take_append_drop (leb n).length (xs.drop s),<-q3]
   simp only [UR,abu];exact e2.symm
  cases h
 rw [q1] at h;simp only at h;rw [if_neg q2] at h;cases h
theorem codecR:Codec ZH (fun c=>leb c.2.2.size++c.2.2.data.toList) (fun c=>c.1=false/\isC 5 c=true):=by
 have key:∀ c:Cl,c.1=false->isC 5 c=true->c=Xe c.2.2/\c.2.2.size<=1024:=by
  rintro ⟨u,n,s⟩ hu hc;simp only at hu;subst hu;simp [isC,Zd] at hc;obtain ⟨rfl,h3⟩:=hc;exact ⟨rfl,h3⟩
 have hsz:∀ s:ByteArray,s.data.toList.length=s.size:=fun s=>Array.length_toList;refine ⟨?_,?_,?_⟩
 ·rintro c ⟨hu,hc⟩ p r l;obtain ⟨h3,h4⟩:=key c hu hc;have hg:get ((p++((leb c.2.2.size++c.2.2.data.toList)++r)).drop p.length)=(c.2.2.size,(leb c.2.2.size).length,0):=by
   rw [List.drop_left,List.append_assoc];exact Zj _ (by omega) _
  have hd:(p++((leb c.2.2.size++c.2.2.data.toList)++r)).drop (p.length+(leb c.2.2.size).length)=c.2.2.data.toList++r:=by
   rw [<-List.drop_drop,List.drop_left,List.append_assoc,List.drop_left]
  unfold ZH;simp only;rw [hg];simp only;simp only [if_true];rw [if_neg (by omega),if_neg (by have:=hsz c.2.2;simp only [List.length_append];omega),hd,<-hsz,List.take_left];rw [show Xe (txt c.2.2.data.toList)=c from h3.symm];simp [Nat.add_assoc]
 ·rintro c ⟨hu,hc⟩ p j l hj;obtain ⟨h3,h4⟩:=key c hu hc;have hj2:=hj;rw [List.length_append,hsz] at hj2;unfold ZH;simp only;rw [List.drop_left];rcases Nat.lt_or_ge j (leb c.2.2.size).length with h | h
  ·rw [List.take_append_of_le_length (by omega),afd _ _ (by omega) h];simp
  rw [List.take_append,List.take_of_length_le h,Zj _ (by omega)];simp only;simp only [if_true];rw [if_neg (by omega),if_pos ?_];have:=hsz c.2.2;simp only [List.length_append,List.length_take];omega
 intro xs l s l' s' hs h;unfold ZH at h;simp only at h;rcases qt (xs.drop s) with ⟨n,e,q1,q2,q3⟩ | ⟨e,q1,q2,-⟩
 ·rw [e] at h;simp only [if_true] at h
  split at h
  ·cases h
  rename_i hn
  split at h
  ·cases h
  rename_i hl
  injection h with h
  injection h with e1 e2
  rw [List.length_drop] at q2;have ht:(txt ((xs.drop (s+(leb n).length)).take n)).size=n:=by
   rw [<-hsz];show ((xs.drop (s+(leb n).length)).take n).length=n;rw [List.length_take,List.length_drop];omega
  refine ⟨_,⟨rfl,?_⟩,e1.symm,by omega,?_,?_⟩
  ·simp only [isC,Xe,Zd,ht];simp;omega
  ·simp only [Xe,ht];show xs.drop s=leb n++(xs.drop (s+(leb n).length)).take n++xs.drop s';have hd:(xs.drop (s+(leb n).length)).take n++xs.drop (s+(leb n).length+n)=xs.drop (s+(leb n).length):=by
    rw [<-List.drop_drop (l:=xs) (i:=n) (j:=s+(leb n).length),List.take_append_drop]
   rw [<-e2,List.append_assoc,hd,<-List.drop_drop]
   conv=>lhs;rw [<-List.take_append_drop (leb n).length (xs.drop s),<-q3]
  simp only [Xe,ht,List.length_append];rw [hsz,ht];omega
 rw [q1] at h;simp only at h;rw [if_neg q2] at h;cases h
def okC (k:Int) (l:List Cl):Prop:=∀ c∈l,c.1=false/\isC k c=true
theorem akR {c:Cl} (h:c.1=false/\isC 1 c=true):Ve (c.2.1==1)=c:=by
 obtain ⟨u,n,s⟩:=c;obtain ⟨h1,h2⟩:=h;simp only at h1;subst h1;simp [isC] at h2;obtain ⟨rfl,h3,h4⟩:=h2;rcases (show n=0\/n=1 by omega) with rfl | rfl<;>rfl
theorem ajO {c:Cl} (h:c.1=false/\isC 4 c=true):Xe c.2.2=c/\c.2.2.size<=1024/\Lib.validD c.2.2.data.toList=true:=by
 obtain ⟨u,n,s⟩:=c;obtain ⟨h1,h2⟩:=h;simp only at h1;subst h1;simp [isC,Zd] at h2;obtain ⟨⟨rfl,h3⟩,h4⟩:=h2;exact ⟨rfl,h3,h4⟩
theorem ahs (b:Bool):(Ve b).1=false/\isC 1 (Ve b)=true:=by cases b<;>simp [Ve,isC]
theorem ac0 (k:Int) (h1:1<=k) (h5:k<=5) (l:List Cl) (hP:okC k l) (hl:l.length<=1048576) (r:List UInt8):qP k (yh k l++r) (l.length:Int)=.ok (l,(yh k l).length):=by
 rcases (show k=1\/(k=2\/k=3)\/k=4\/k=5 by omega) with rfl | h | rfl | rfl
 ·have hu:=V6 (l.map fun c=>c.2.1==1) r (by simpa using hl);rw [List.length_map] at hu;simp only [qP,yh,if_true];rw [hu];simp only [if_true,List.map_map];rw [yY,List.length_map]
  congr 2
  refine (List.map_congr_left (g:=id) fun c hc=>?_).trans (List.map_id l);exact akR (hP c hc)
 ·have:=(aie k h).backs l (fun c hc=>hP c hc) r;have hk:¬k=1/\¬k=4/\¬k=5:=by omega
  simp only [qP,yh,hk,if_false];simpa [yW] using this
 ·have hz:∀ s∈l.map (fun c=>c.2.2),(s.size:Int)<=1024:=by
   intro s hs;obtain ⟨c,hc,rfl⟩:=List.mem_map.1 hs;have:=(ajO (hP c hc)).2.1;omega
  have hg:=ahX (l.map fun c=>c.2.2) r 1024 (by simpa using hl) hz (fun s hs=>by have:=hz s hs;omega);rw [List.length_map] at hg;have hd:ZC (qK (l.map fun c=>c.2.2)++r) (l.length:Int) 1024=.ok (l.map (fun c=>c.2.2),(qK (l.map fun c=>c.2.2)).length):=by
   unfold ZC;rw [if_neg (by omega),Int.toNat_natCast,hg]
  have ha:(l.map fun c=>c.2.2).all (fun s=>Lib.validD s.data.toList)=true:=by
   rw [List.all_eq_true];intro s hs;obtain ⟨c,hc,rfl⟩:=List.mem_map.1 hs;exact (ajO (hP c hc)).2.2
  have hm:(l.map fun c=>c.2.2).map Xe=l:=by
   rw [List.map_map];refine (List.map_congr_left (g:=id) fun c hc=>?_).trans (List.map_id l);exact (ajO (hP c hc)).1
  simp only [qP,yh,show ¬(4:Int)=1 by decide,if_false,if_true];rw [hd];simp only;rw [if_pos ha,hm]
 have:=codecR.backs l (fun c hc=>hP c hc) r;simp only [qP,yh,show ¬(5:Int)=1 by decide,show ¬(5:Int)=4 by decide,if_false,if_true];simpa [y9] using this
theorem Vw (k:Int) (h1:1<=k) (h5:k<=5) (xs:List UInt8) (n:Nat) (l:List Cl) (s:Nat) (h:qP k xs (n:Int)=.ok (l,s)):l.length=n/\okC k l/\s<=xs.length/\yh k l=xs.take s:=by
 rcases (show k=1\/(k=2\/k=3)\/k=4\/k=5 by omega) with rfl | hk | rfl | rfl
 ·simp only [qP,if_true] at h;rcases ZJ xs (n:Int) with ⟨t,m,e,q1,q2,q3⟩ | ⟨e,q1,q2,-⟩
  ·rw [e] at h;simp only [if_true,Except.ok.injEq,Prod.mk.injEq] at h;obtain ⟨rfl,rfl⟩:=h;refine ⟨by rw [List.length_map];omega,?_,q2,?_⟩
   ·intro c hc;obtain ⟨b,-,rfl⟩:=List.mem_map.1 hc;exact ahs b
   simp only [yh,if_true,List.map_map];rw [<-q3]
   congr 1
   refine (List.map_congr_left (g:=id) fun b hb=>?_).trans (List.map_id t);cases b<;>rfl
  rw [q1] at h;simp only at h;rw [if_neg q2] at h;cases h
 ·have hk2:¬k=1/\¬k=4/\¬k=5:=by omega
  simp only [qP,hk2,if_false,Int.toNat_natCast] at h;obtain ⟨q1,q2,q3,q4,q5⟩:=(aie k hk).onlys xs n l s h;refine ⟨q1,q2,q3,?_⟩;simp only [yh,hk2,if_false,yW];rw [q4]
  conv=>rhs;rw [q5]
  rw [List.take_left]
 ·simp only [qP,show ¬(4:Int)=1 by decide,if_false,if_true] at h;rcases hd:ZC xs (n:Int) 1024 with e | ⟨t,m⟩
  ·rw [hd] at h;cases h
  rw [hd] at h;simp only at h
  split at h
  ·rename_i ha
   simp only [Except.ok.injEq,Prod.mk.injEq] at h;obtain ⟨rfl,rfl⟩:=h;obtain ⟨q1,q2,q3,q4,-⟩:=aap xs (n:Int) 1024 t m hd;have hz:=Ja xs (n:Int) 1024 t m hd;rw [List.all_eq_true] at ha;refine ⟨by rw [List.length_map];omega,?_,q3,?_⟩
   ·intro c hc;obtain ⟨b,hb,rfl⟩:=List.mem_map.1 hc;have h1:=hz b hb;have h2:=ha b hb;refine ⟨rfl,?_⟩;simp [isC,Xe,Zd,h2];omega
   simp only [yh,show ¬(4:Int)=1 by decide,if_false,if_true,List.map_map];rw [<-q4]
   congr 1
   exact (List.map_congr_left (g:=id) fun b hb=>rfl).trans (List.map_id t)
  cases h
 simp only [qP,show ¬(5:Int)=1 by decide,show ¬(5:Int)=4 by decide,if_false,if_true,Int.toNat_natCast] at h;obtain ⟨q1,q2,q3,q4,q5⟩:=codecR.onlys xs n l s h;refine ⟨q1,q2,q3,?_⟩;simp only [yh,show ¬(5:Int)=1 by decide,show ¬(5:Int)=4 by decide,if_false,if_true,y9];rw [q4]
 conv=>rhs;rw [q5]
 rw [List.take_left]
theorem UA (k:Int) (nl:Bool) (l:List Cl) (hk:yZ k=true):Yr k nl l=true ↔ okC k (zy l)/\∀ c∈l,c.1=true->nl=true/\c=Zh:=by
 unfold Yr okC zy;rw [List.all_eq_true];have key:∀ c:Cl,(zw k nl c==0)=true ↔ (c.1=false->isC k c=true)/\(c.1=true->nl=true/\c=Zh):=by
  rintro ⟨u,n,s⟩;cases u with
  | false=>
   simp only [zw,hk,if_true];by_cases hi:isC k (false,n,s)=true<;>simp [hi]
  | true=>
   simp only [zw,hk,if_true];cases nl with
   | false=>simp
   | true=>
    by_cases hn:n=0/\s=⟨#[]⟩
    ·obtain ⟨rfl,rfl⟩:=hn;simp [Zh]
    simp only [Bool.true_and,decide_eq_true_eq];rw [if_neg hn];simp only [Zh,Prod.mk.injEq,true_and];simp;exact fun h=>(not_and.1 hn) h
 constructor
 ·intro h;refine ⟨fun c hc=>?_,fun c hc hu=>((key c).1 (h c hc)).2 hu⟩;obtain ⟨h1,h2⟩:=List.mem_filter.1 hc;have h3:c.1=false:=by simpa using h2
  exact ⟨h3,((key c).1 (h c h1)).1 h3⟩
 rintro ⟨h1,h2⟩ c hc;refine (key c).2 ⟨fun hu=>?_,h2 c hc⟩;exact (h1 c (List.mem_filter.2 ⟨hc,by simp [hu]⟩)).2
theorem JG (l:List Cl):(zy l).length<=l.length:=List.length_filter_le _ _
theorem Uv:∀ l:List Cl,zx (l.map fun c => !c.1)=(zy l).length
 | []=>rfl
 | c::l=>by
  have:=Uv l;unfold zx zy at *;cases hc:c.1<;>simp [hc] at * <;> omega
theorem aab:∀ l:List Cl,(∀ c∈l,c.1=true->c=Zh)->zJ (l.map fun c => !c.1) (zy l)=l
 | [],_=>rfl
 | c::l,h=>by
  have ih:=aab l (fun x hx=>h x (by simp [hx]));cases hc:c.1 with
  | false=>simp [zy,zJ,hc] at *;exact ih
  | true=>
   have:=h c (by simp) hc;simp [zy,zJ,hc] at *;exact ⟨this.symm,ih⟩
theorem VR:∀ (t:List Bool) (l:List Cl),(∀ c∈l,c.1=false)->zx t=l.length->zy (zJ t l)=l/\(zJ t l).map (fun c => !c.1)=t/\∀ c∈zJ t l,c.1=true->c=Zh
 | [],l,h,hc=>by
  have:l=[]:=List.eq_nil_of_length_eq_zero (by simpa [zx] using hc.symm);subst this;simp [zJ,zy]
 | false::t,l,h,hc=>by
  obtain ⟨h1,h2,h3⟩:=VR t l h (by simpa [zx] using hc);refine ⟨by simpa [zJ,zy,Zh] using h1,by simpa [zJ,Zh] using h2,?_⟩;intro c hm hu;rcases List.mem_cons.1 hm with rfl | hm
  ·rfl
  exact h3 c hm hu
 | true::t,[],h,hc=>by simp [zx] at hc
 | true::t,c::l,h,hc=>by
  obtain ⟨h1,h2,h3⟩:=VR t l (fun x hx=>h x (by simp [hx])) (by simpa [zx] using hc);have hc0:=h c (by simp);refine ⟨by simp [zJ,zy,hc0] at *;exact h1,by simp [zJ,hc0] at *;exact h2,?_⟩;intro x hm hu;rcases List.mem_cons.1 hm with rfl | hm
  ·rw [hc0] at hu;cases hu
  exact h3 x hm hu
theorem aaS (l:List Cl) (h:∀ c∈l,c.1=false):zy l=l:=List.filter_eq_self.2 fun c hc=>by simp [h c hc]
theorem ah1 (k:Int) (nl:Bool) (l:List Cl) (hk:yZ k=true) (ha:Yr k nl l=true) (hl:l.length<=1048576) (r:List UInt8):Y9 k nl (YO k nl l []++r) (l.length:Int)=.ok (l,(YO k nl l []).length):=by
 obtain ⟨h1,h5⟩:1<=k/\k<=5:=by simpa [yZ] using hk
 obtain ⟨ho,hn⟩:=(UA k nl l hk).1 ha;have hs:=JG l;unfold Y9;rw [if_neg (by simp [hk]),if_neg (by omega)];cases nl with
 | false=>
  have hsl:zy l=l:=aaS l fun c hc=>by
   cases hu:c.1 with
   | false=>rfl
   | true=>exact absurd (hn c hc hu).1 (by simp)
  rw [hsl] at ho;simp only [YO,Bool.false_eq_true,if_false,List.nil_append,if_true,hsl];exact ac0 k h1 h5 l ho hl r
 | true=>
  have hu:=V6 (l.map fun c => !c.1) (yh k (zy l)++r) (by simpa using hl);rw [List.length_map] at hu;simp only [YO,if_true,List.nil_append,List.append_assoc];rw [hu];simp only [Bool.true_eq_false,if_false,if_true];have hp:(zB (l.map fun c => !c.1)).length=zD l.length:=by rw [yY,List.length_map]
  rw [<-hp,List.drop_left,Uv,ac0 k h1 h5 (zy l) ho (by omega) r];simp only;rw [aab l (fun c hc hu=>(hn c hc hu).2),List.length_append]
theorem UW (k:Int) (nl:Bool) (xs:List UInt8) (n:Int) (l:List Cl) (s:Nat) (h:Y9 k nl xs n=.ok (l,s)):yZ k=true/\(l.length:Int)=n/\l.length<=1048576/\s<=xs.length/\YO k nl l []=xs.take s/\Yr k nl l=true:=by
 unfold Y9 at h
 split at h
 ·cases h
 rename_i hk
 have hk:yZ k=true:=by simpa using hk
 obtain ⟨h1,h5⟩:1<=k/\k<=5:=by simpa [yZ] using hk
 split at h
 ·cases h
 rename_i hn
 obtain ⟨m,rfl⟩:∃ m:Nat,n=(m:Int):=⟨n.toNat,by omega⟩;cases nl with
 | false=>
  simp only [if_true] at h;obtain ⟨q1,q2,q3,q4⟩:=Vw k h1 h5 xs m l s h;have hsl:zy l=l:=aaS l fun c hc=>(q2 c hc).1;refine ⟨hk,by omega,by omega,q3,by simp [YO,hsl,q4],(UA k false l hk).2 ⟨by rw [hsl];exact q2,fun c hc hu=>?_⟩⟩;rw [(q2 c hc).1] at hu;cases hu
 | true=>
  simp only [Bool.true_eq_false,if_false] at h;rcases ZJ xs (m:Int) with ⟨t,a,e,q1,q2,q3⟩ | ⟨e,q1,q2,-⟩
  ·rw [e] at h;simp only [if_true] at h;rcases hg:qP k (xs.drop a) (zx t:Int) with e2 | ⟨l2,s2⟩
   ·rw [hg] at h;cases h
   rw [hg] at h;simp only [Except.ok.injEq,Prod.mk.injEq] at h;obtain ⟨rfl,rfl⟩:=h;obtain ⟨g1,g2,g3,g4⟩:=Vw k h1 h5 _ _ l2 s2 hg;obtain ⟨m1,m2,m3⟩:=VR t l2 (fun c hc=>(g2 c hc).1) g1.symm;have hlen:=Xl t l2 (by omega);rw [List.length_drop] at g3;refine ⟨hk,by rw [hlen];exact q1,by rw [hlen];omega,by omega,?_,(UA k true _ hk).2 ⟨by rw [m1];exact g2,fun c hc hu=>⟨rfl,m3 c hc hu⟩⟩⟩;simp only [YO,if_true,List.nil_append];rw [m1,m2,g4,q3,List.take_add]
  rw [q1] at h;simp only at h;rw [if_neg q2] at h;cases h
end
section
def crcPoly:Nat:=2197175160
def Yf (r:Nat):Nat:=(r / 2) ^^^ (if r % 2=1 then crcPoly else 0)
def Zm (r:Nat):Nat:=Yf (Yf (Yf (Yf r)))
def ais (r:Nat) (c:UInt8):Nat:=Zm (Zm (r ^^^ c.toNat))
def VD (r:Nat) (xs:List UInt8):Nat:=xs.foldl ais r
def aey (s:Nat) (xs:List UInt8):Nat:=4294967295-VD (4294967295-s) xs
def zZ (xs:List UInt8):Nat:=aey 0 xs
def yj (s:Nat):List UInt8:=[UInt8.ofNat s,UInt8.ofNat (s / 256),UInt8.ofNat (s / 65536),UInt8.ofNat (s / 16777216)]
def crcTab:List Nat:=[0,274646895,549293790,820201905,1098587580,1361435347,1640403810,1905808397,2197175160,2460548119,2722870694,2987750089,3280807620,3553878443,3811616794,4084100981]
theorem abX (a b:Nat):(a ^^^ b) / 2=(a / 2) ^^^ (b / 2):=by
 apply Nat.eq_of_testBit_eq;intro i;simp [Nat.testBit_div_two]
theorem aeV (a b:Nat):(a ^^^ b) % 2=(a % 2+b % 2) % 2:=by
 have h0:(a ^^^ b).testBit 0=(a.testBit 0 ^^ b.testBit 0):=Nat.testBit_xor ..;simp only [Nat.testBit_zero] at h0;rcases Nat.mod_two_eq_zero_or_one a with ha | ha<;>rcases Nat.mod_two_eq_zero_or_one b with hb | hb<;>rcases Nat.mod_two_eq_zero_or_one (a ^^^ b) with hc | hc<;>simp [ha,hb,hc] at h0 ⊢
theorem Vi (a b:Nat):Yf (a ^^^ b)=Yf a ^^^ Yf b:=by
 unfold Yf;rw [abX,aeV];apply Nat.eq_of_testBit_eq;intro i;rcases Nat.mod_two_eq_zero_or_one a with ha | ha<;>rcases Nat.mod_two_eq_zero_or_one b with hb | hb<;>simp [ha,hb];all_goals cases (a / 2).testBit i<;>cases (b / 2).testBit i<;>cases crcPoly.testBit i<;>rfl
theorem ZK (m:Nat):Yf (2*m)=m:=by
 unfold Yf;rw [if_neg (by omega),Nat.xor_zero];omega
theorem afz (a b:Nat):Zm (a ^^^ b)=Zm a ^^^ Zm b:=by
 unfold Zm;rw [Vi,Vi,Vi,Vi]
theorem afB (q:Nat):Zm (16*q)=q:=by
 unfold Zm;rw [show 16*q=2*(2*(2*(2*q))) by omega,ZK,ZK,ZK,ZK]
theorem aiQ (r:Nat):(16*(r / 16)) ^^^ (r % 16)=r:=by
 apply Nat.eq_of_testBit_eq;intro i;have h16:(16:Nat)=2 ^ 4:=rfl;rw [Nat.testBit_xor,h16,Nat.testBit_two_pow_mul,Nat.testBit_mod_two_pow,Nat.testBit_div_two_pow];by_cases hi:4<=i
 ·have h1:¬i<4:=by omega
  have h2:i-4+4=i:=by omega
  simp [hi,h1,h2]
 have h1:i<4:=by omega
 simp [hi,h1]
theorem afA (l:Nat) (h:l<16):crcTab[l]? = some (Zm l):=by
 have:∀ k:Fin 16,crcTab[k.val]? = some (Zm k.val):=by decide +kernel
 exact this ⟨l,h⟩
theorem adD (r:Nat):Zm r=(r / 16) ^^^ Zm (r % 16):=by
 conv=>lhs;rw [<-aiQ r]
 rw [afz,afB]
theorem V8 {r:Nat} (h:r<4294967296):Yf r<4294967296:=by
 unfold Yf;refine Nat.xor_lt_two_pow (n:=32) (by omega) ?_
 split<;>decide
theorem V9 {r:Nat} (h:r<4294967296):Zm r<4294967296:=V8 (V8 (V8 (V8 h)))
theorem aeU {r:Nat} (h:r<4294967296) (c:UInt8):r ^^^ c.toNat<4294967296:=by
 have:=c.toNat_lt;exact Nat.xor_lt_two_pow (n:=32) (by omega) (by omega)
theorem air {r:Nat} (h:r<4294967296) (c:UInt8):ais r c<4294967296:=V9 (V9 (aeU h c))
theorem abP {r:Nat} (h:r<4294967296) (xs:List UInt8):VD r xs<4294967296:=by
 induction xs generalizing r with
 | nil=>exact h
 | cons c xs ih=>exact ih (air h c)
theorem Uu (s:Nat) (xs:List UInt8):aey s xs<4294967296:=by unfold aey;omega
theorem Jd (r:Nat) (xs ys:List UInt8):VD r (xs++ys)=VD (VD r xs) ys:=by unfold VD;exact List.foldl_append
def XM (r b:Nat):Nat:=(r / 2) ^^^ (if r % 2≠b then crcPoly else 0)
theorem afy (r c:Nat):Yf (r ^^^ c)=XM r (c % 2) ^^^ (c / 2):=by
 unfold Yf XM;rw [abX,aeV];rcases Nat.mod_two_eq_zero_or_one r with ha | ha<;>rcases Nat.mod_two_eq_zero_or_one c with hb | hb<;>simp [ha,hb]<;>(apply Nat.eq_of_testBit_eq;intro i;simp;cases (r / 2).testBit i<;>cases (c / 2).testBit i<;>cases crcPoly.testBit i<;>rfl)
def YL (r c:Nat):Nat->Nat
 | 0=>r
 | k+1=>XM (YL r c k) (c / 2 ^ k % 2)
def abx (r:Nat):Nat->Nat
 | 0=>r
 | k+1=>Yf (abx r k)
theorem adC (r c:Nat) (k:Nat):abx (r ^^^ c) k=YL r c k ^^^ (c / 2 ^ k):=by
 induction k with
 | zero=>simp [abx,YL]
 | succ k ih=>
  rw [abx,ih,afy,YL,Nat.pow_succ,Nat.div_div_eq_div_mul]
theorem aeH (r:Nat) (c:UInt8):YL r c.toNat 8=ais r c:=by
 have h:=adC r c.toNat 8;have hc:=c.toNat_lt;rw [show c.toNat / 2 ^ 8=0 by omega,Nat.xor_zero] at h;rw [<-h];rfl
theorem agV {r:Nat} (h:r<4294967296) (b:Nat):XM r b<4294967296:=by
 unfold XM;refine Nat.xor_lt_two_pow (n:=32) (by omega) ?_
 split<;>decide
theorem afx {r:Nat} (h:r<4294967296) (c k:Nat):YL r c k<4294967296:=by
 induction k with
 | zero=>exact h
 | succ k ih=>exact agV ih _
end
end Go.Proofs.YtjpjalmilfgckaaGreatDoor
