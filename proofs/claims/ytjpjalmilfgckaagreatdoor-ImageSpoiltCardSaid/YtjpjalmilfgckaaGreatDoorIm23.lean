/- Part 23 of the walks, merged: each text under its own heading. Conditions: none of its own; each lemma states what it asks. -/
import Derived.Test.YtjpjalmilfgckaaGreatDoorIm7
import Derived.Test.YtjpjalmilfgckaaGreatDoorIm8
import Derived.Test.YtjpjalmilfgckaaGreatDoorIm10
import Derived.Test.YtjpjalmilfgckaaGreatDoorIm12
import Derived.Test.YtjpjalmilfgckaaGreatDoorIm14
import Derived.Test.YtjpjalmilfgckaaGreatDoorIm15
import Derived.Test.YtjpjalmilfgckaaGreatDoorIm16
import Derived.Test.YtjpjalmilfgckaaGreatDoorIm17
import Derived.Test.YtjpjalmilfgckaaGreatDoorIm18
import Derived.Test.YtjpjalmilfgckaaGreatDoorIm20
import Derived.Test.YtjpjalmilfgckaaGreatDoorIm21
import Derived.Test.YtjpjalmilfgckaaGreatDoorIm22
import Derived.Lib.LaidU8T
import Derived.OpenShut
set_option maxRecDepth 100000
set_option linter.unusedVariables false
set_option linter.unusedSimpArgs false
namespace Go.Proofs.YtjpjalmilfgckaaGreatDoor
open Go.RowKit
def cutTo (r:List Cl) (k:Nat):List Cl:=(r.take k).map cutc
theorem cutTo_succ {r:List Cl} {k:Nat} {c:Cl} (h:r[k]? = some c):cutTo r (k+1)=cutTo r k++[cutc c]:=by
 unfold cutTo
 rw [List.take_add_one,h,List.map_append]
 rfl
theorem cutTo_all {r:List Cl} {k:Nat} (h:k=min r.length 40):cutTo r k=cutr r:=by
 unfold cutTo cutr
 congr 1
 rcases Nat.lt_or_ge r.length 40 with h1 | h1
 ·rw [List.take_of_length_le (by omega),List.take_of_length_le (by omega)]
 rw [show k=40 by omega]
def cutI (l:List It) (i:Nat):List It:=(l.take i).map cuti
theorem cutI_succ {l:List It} {i:Nat} {it:It} (h:l[i]? = some it):cutI l (i+1)=cutI l i++[cuti it]:=by
 unfold cutI
 rw [List.take_add_one,h,List.map_append]
 rfl
end Go.Proofs.YtjpjalmilfgckaaGreatDoor
namespace Go.Proofs.YtjpjalmilfgckaaGreatDoor
open Go.RowKit
theorem Blk.readsN {w:World} {g:Nat} {t:TypeId} {cs:Array Value} (h:Blk w g t cs) (size n:Nat) (xs:List Value) (hx:cs.toList=xs) (hn:xs.length=n*size):Reads w w.heap.size size (some ⟨g,0,none⟩) n xs:=by
 refine ⟨hn,fun _=>⟨_,rfl,h.lt,fun j u hu=>?_⟩⟩
 have hadd:(⟨g,0,none⟩:Addr).add j=⟨g,j,none⟩:=by unfold Addr.add;split<;>simp_all
 rw [hadd,h.cell]
 rw [<-hx] at hu
 simpa using hu
theorem items_one {w:World} {g:Nat} {A:Option Addr} {n c:Nat} {r:List Cl} {x:Int} (hb:Blk w g 26 #[.slice A n c,.int .i64 x]) (hr:Reads w w.heap.size 3 A n (cls r)) (hn:n<=c) (hc:c<=maxLen) :
  ItemsAt w w.heap.size (some ⟨g,0,none⟩) 1 [(r,x)]:=
 ⟨[(A,n,c)],hb.readsN 2 1 _ rfl rfl,RowsAt.nil.snoc (h:=(A,n,c)) (it:=(r,x)) hr hn hc⟩
def rowW:List Cl:=[(false,1,⟨#[]⟩),(false,0,⟨#[97]⟩)]
def row2W:List Cl:=[(false,-2,⟨#[]⟩),(false,0,⟨#[97]⟩)]
def itW:List It:=[(rowW,1),(row2W,-1)]
def hdW:List UInt8:=[77,83,1,3,172,2,2,2,3,1,1,97,0,0,2,1]
def xW:List UInt8:=[77,83,1,3,172,2,2,2,3,1,1,97,0,0,2,1,119,82,65,129]
theorem baOk_of {v s:Int} {l:List It} (hs:s<=9223372036854775807) (h:ItOk l):BaOk (v,s,l):=⟨hs,fun it hit=>(h it hit).2⟩
structure WkB (w:World) (A:Option Addr) (c h:Nat) (wc:World):Prop where
 below:Below w.heap.size w wc
 items:ItemsAt wc wc.heap.size (some ⟨w.heap.size+2,0,none⟩) 2 itW
 blk:Blk wc (w.heap.size+3) 30 #[.int .i64 3,.int .i64 300,.slice (some ⟨w.heap.size+2,0,none⟩) 2 2]
 its_:Blk wc (w.heap.size+2) 26 #[.slice (some ⟨w.heap.size,0,none⟩) 2 2,.int .i64 1,.slice (some ⟨w.heap.size+1,0,none⟩) 2 2,.int .i64 (-1)]
 row:Reads wc wc.heap.size 3 (some ⟨w.heap.size,0,none⟩) 2 (cls rowW)
 x:Reads wc wc.heap.size 1 A 20 (u8s xW)
 cap:20<=c/\c<=maxLen
 head:Reads wc wc.heap.size 1 (some ⟨h,0,none⟩) 16 (u8s hdW)
 tab:Tab2 wc.heap.size wc
theorem WkB.on {w wc w':World} {A:Option Addr} {c h:Nat} (H:WkB w A c h wc) (hb:Below wc.heap.size wc w'):WkB w A c h w':=
 ⟨bon H.below hb,H.items.on hb,H.blk.on hb,H.its_.on hb,H.row.on hb,H.x.on hb,H.cap,H.head.on hb,H.tab.on hb⟩
theorem WkB.al {w wc:World} {A:Option Addr} {c h:Nat} (H:WkB w A c h wc) (o:Obj):WkB w A c h (wc.alloc o):=H.on (bal (Below.refl _ _) o)
end Go.Proofs.YtjpjalmilfgckaaGreatDoor
namespace Go.Proofs.YtjpjalmilfgckaaGreatDoor
open Go.RowKit Go.Deep Go.ChangeShapes Go.WideShapes Go.Shelf Go.Lib
def crcData:DataW Unit:=tabData .u32 (crcTab.map Int.ofNat)
theorem ctab_of {w : World} (h : VarReads Tryz.prog w "millstream/crc.table" crcData) : CTab w := by
 intro i hi
 obtain ⟨g,t,cs,fuel,p,hg,hty,hvar,hd⟩:=h
 obtain rfl:g=0:=Option.some.inj (hg.symm.trans (by kernel_rfl))
 obtain rfl:t=212:=Option.some.inj (hty.symm.trans (by kernel_rfl))
 have hcs:=cells_of_tab Tryz.underlying212 Tryz.underlying67 (by kernel_rfl) (by kernel_rfl) hd
 rw [World.var?_cell hg hvar i,<-Array.getElem?_toList,hcs]
 have:=step4_tab i hi
 simp [this]
theorem u8s_of {H:Type} {enc:TypeId×Value->H} {w:World} {held:Bool} {m:Nat} {a:Option Addr} {len cap:Nat} {y:DataW H×List MemPlace} (hf:DataW.trod enc Tryz.prog w 0 (fun _=>true) held m 35 [.slice a len cap]=some y) :
  ∃ xs:List UInt8,Reads w w.heap.size 1 a len (u8s xs)/\len<=cap/\cap<=maxLen:=by
 rcases open_ints Tryz.underlying35 Tryz.underlying5 (by kernel_rfl) hf with ⟨hcs,_⟩ | ⟨x,l,c,zs,hcs,_,hl,hm,hz,_,hcell,hwz⟩
 ·simp at hcs
  obtain ⟨rfl,rfl,rfl⟩:=hcs
  exact bytes_of_row (zs:=[]) (.inl ⟨rfl,rfl,rfl,rfl⟩)
 simp at hcs
 obtain ⟨rfl,rfl,rfl⟩:=hcs
 exact bytes_of_row (zs:=zs) (.inr ⟨_,rfl,hl,hm,by simpa using hz,hcell,hwz⟩)
end Go.Proofs.YtjpjalmilfgckaaGreatDoor
namespace Go.Proofs.YtjpjalmilfgckaaGreatDoor
open Go.RowKit
theorem cellE_ok {k:Int} {nl:Bool} {c:Cl} (hk:mayK k=true) (h:checkE k nl c=0) : -9223372036854775808<=c.2.1/\c.2.1<=9223372036854775807/\c.2.2.size<=maxLen:=by
 obtain ⟨h1,h5⟩:1<=k/\k<=5:=by simpa [mayK] using hk
 have ha:allC k nl [c]=true:=by simp [allC,h]
 obtain ⟨ho,hn⟩:=(allC_iff k nl [c] hk).1 ha
 cases hu:c.1 with
 | true=>
  obtain ⟨-,rfl⟩:=hn c (by simp) hu
  exact ⟨by decide,by decide,by decide⟩
 | false=>
  have hi:=(ho c (List.mem_filter.2 ⟨by simp,by simp [hu]⟩)).2
  have hs:=size_of_ok h1 h5 hi
  refine ⟨?_,?_,Nat.le_trans hs (by decide)⟩
  all_goals
   rcases (show k=1\/k=2\/k=3\/k=4\/k=5 by omega) with rfl | rfl | rfl | rfl | rfl
   all_goals simp [isC,sizeC] at hi;omega
theorem Fits.itOk {cs:List Co} {b:Ba} (h:Fits cs b) (hb:BaOk b):ItOk b.2.2:=by
 intro it hit
 obtain ⟨hl,hc⟩:=rowE_zero (h.items it hit).1
 refine ⟨fun c hm=>?_,hb.2 it hit⟩
 obtain ⟨j,hj⟩:=List.getElem?_of_mem hm
 have hlt:=(List.getElem?_eq_some_iff.1 hj).1
 have hco:=List.getElem?_eq_getElem (l:=cs) (i:=j) (by omega)
 exact cellE_ok (mayCs_at h.may hco) (hc j _ _ hco hj)
structure LawB (w:World) (A1:Option Addr) (k1:Nat) (lc:List Co) (v s:Int) (A:Option Addr) (k c:Nat) (l:List It) (wc:World):Prop where
 below:Below w.heap.size w wc
 box:Blk wc w.heap.size 30 #[.int .i64 v,.int .i64 s,.slice A k c]
 cols:Reads wc wc.heap.size 7 A1 k1 (cos lc)
 items:ItemsAt wc wc.heap.size A k l
 tab:Tab2 wc.heap.size wc
 le1:k1<=40
 le2:k<=30
 ok:ItOk l
 sok:s<=9223372036854775807
section
variable {w wc w':World} {A1 A:Option Addr} {k1 k c:Nat} {lc:List Co} {v s:Int} {l:List It}
theorem LawB.on (h:LawB w A1 k1 lc v s A k c l wc) (hb:Below wc.heap.size wc w'):LawB w A1 k1 lc v s A k c l w':=
 ⟨bon h.below hb,h.box.on hb,h.cols.on hb,h.items.on hb,h.tab.on hb,h.le1,h.le2,h.ok,h.sok⟩
theorem LawB.al (h:LawB w A1 k1 lc v s A k c l wc) (o:Obj):LawB w A1 k1 lc v s A k c l (wc.alloc o):=h.on (bal (Below.refl _ _) o)
theorem LawB.baok (h:LawB w A1 k1 lc v s A k c l wc):BaOk (v,s,l):=baOk_of h.sok h.ok
end
end Go.Proofs.YtjpjalmilfgckaaGreatDoor
namespace Go.Proofs.YtjpjalmilfgckaaGreatDoor
open Go.RowKit
def cutm (m:Mk):Mk:=(m.1.extract 0 (min m.1.size 40),m.2)
def cutms (l:List Mk):List Mk:=(l.take 20).map cutm
def cutis (l:List It):List It:=(l.take 20).map cuti
def cutco (c:Co):Co:=(c.1,c.2.1,c.2.2.1,c.2.2.2.1,c.2.2.2.2.1,c.2.2.2.2.2.1,c.2.2.2.2.2.2.extract 0 (min c.2.2.2.2.2.2.size 300))
def cutsc (s:Sc):Sc:=((s.1.take 40).map cutco,s.2.take 12)
theorem extract_le (s:ByteArray) (k:Nat):(s.extract 0 (min s.size k)).size<=s.size:=by
 rw [ByteArray.size_extract]
 omega
theorem cutms_ok {l:List Mk} (h:MkOk l):MkOk (cutms l):=by
 intro m hm
 obtain ⟨x,hx,rfl⟩:=List.mem_map.1 hm
 obtain ⟨h1,h2⟩:=h x (List.mem_of_mem_take hx)
 exact ⟨Nat.le_trans (extract_le _ _) h1,h2⟩
theorem cutis_ok {l:List It} (h:ItOk l):ItOk (cutis l):=by
 intro it hit
 obtain ⟨x,hx,rfl⟩:=List.mem_map.1 hit
 obtain ⟨h1,h2⟩:=h x (List.mem_of_mem_take hx)
 exact ⟨cutr_ok h1,h2⟩
theorem cutsc_ok {s:Sc} (h:ScOk s):ScOk (cutsc s):=by
 have key:∀ c∈(cutsc s).1,∃ x∈s.1,c=cutco x:=fun c hc=>by
  obtain ⟨x,hx,rfl⟩:=List.mem_map.1 hc
  exact ⟨x,List.mem_of_mem_take hx,rfl⟩
 refine ⟨fun c hc=>?_,fun c hc=>?_,fun c hc=>?_,fun c hc=>?_⟩<;>obtain ⟨x,hx,rfl⟩:=key c hc
 ·exact h.kind x hx
 ·exact h.num x hx
 ·exact h.name x hx
 exact Nat.le_trans (extract_le _ _) (h.str x hx)
end Go.Proofs.YtjpjalmilfgckaaGreatDoor
namespace Go.Proofs.YtjpjalmilfgckaaGreatDoor
open Go.RowKit
theorem mark_info:(Tryz.prog.info? 90).map (fun i=>(i.zero,i.size,i.bytes))=some (some (.agg #[.string ⟨#[]⟩,.int .i64 0]),2,24):=by kernel_rfl
section
variable {w:World} {base size n g c:Nat} {e t:TypeId} {v:Value} {xs:List Value} {cs:Array Value} {A:Option Addr} {l:List It}
theorem own_far5 (h:w.ownsRow base e size v n xs) (hb:Blk w g t cs) (hne:e≠t) (a b c d f:Value) :
  (((((w.setCell ⟨g,0,none⟩ a).setCell ⟨g,1,none⟩ b).setCell ⟨g,2,none⟩ c).setCell ⟨g,3,none⟩ d).setCell ⟨g,4,none⟩ f).ownsRow base e size v n xs:=
 own_far (own_far (own_far (own_far (own_far h hb hne 0 a) (hb.set_ 0 a) hne 1 b) ((hb.set_ 0 a).set_ 1 b) hne 2 c) (((hb.set_ 0 a).set_ 1 b).set_ 2 c) hne 3 d) ((((hb.set_ 0 a).set_ 1 b).set_ 2 c).set_ 3 d) hne 4 f
theorem items_far5 (h:ItemsOwn w base A n c l) (hb:Blk w g t cs) (h1:23≠t) (h2:26≠t) (a b c' d f:Value) :
  ItemsOwn (((((w.setCell ⟨g,0,none⟩ a).setCell ⟨g,1,none⟩ b).setCell ⟨g,2,none⟩ c').setCell ⟨g,3,none⟩ d).setCell ⟨g,4,none⟩ f) base A n c l:=
 ((((h.far hb h1 h2 0 a).far (hb.set_ 0 a) h1 h2 1 b).far ((hb.set_ 0 a).set_ 1 b) h1 h2 2 c').far (((hb.set_ 0 a).set_ 1 b).set_ 2 c') h1 h2 3 d).far ((((hb.set_ 0 a).set_ 1 b).set_ 2 c').set_ 3 d) h1 h2 4 f
end
set_option maxHeartbeats 1000000 in
theorem copySc_any (CA:Option Addr) (cn cc:Nat) (KA:Option Addr) (kn kc:Nat) (s:Sc) (w:World) (h:ScAt w CA cn KA kn s) (hcn:cn<=1048576) (hkn:kn<=1048576) :
  Calls Tryz.prog 52 #[.agg #[.slice CA cn cc,.slice KA kn kc]] w fun e w'=>∃ A1 c1 A2 c2,e=.returned (.agg #[.slice A1 cn c1,.slice A2 kn c2])/\(cn<=c1/\c1<=maxLen)/\(kn<=c2/\c2<=maxLen)/\w'.ownsRow w.heap.size 45 7 (.slice A1 cn c1) cn (cos s.1)/\w'.ownsRow w.heap.size 3 1 (.slice A2 kn c2) kn (ins s.2)/\Below w.heap.size w w':=by
 obtain ⟨W,hW1⟩:∃ W,(w.alloc (.cells #[.slice CA cn cc,.slice KA kn kc] 48)).alloc (.cells #[.slice none 0 0,.slice none 0 0] 48)=W:=⟨_,rfl⟩
 have HSt:=Lib.hid (show ∀ w',Below w.heap.size w w'->ScAt w' CA cn KA kn s from fun w' hb=>h.on hb)
 have HB:=Lib.hid (show Below w.heap.size w W by rw [<-hW1];exact bal (bal (Below.refl _ _) _) _)
 have BS:=Lib.hid (show Blk W w.heap.size 48 #[.slice CA cn cc,.slice KA kn kc] by rw [<-hW1];exact (Blk.new w _ _).alloc _)
 have BT:=Lib.hid (show Blk W (w.heap.size+1) 48 #[.slice none 0 0,.slice none 0 0] by rw [<-hW1];exact Blk.new' _ _ _ _ (by simp))
 have L0:=Lib.hid (show ∀ w',(Below w.heap.size w w'/\Blk w' w.heap.size 48 #[.slice CA cn cc,.slice KA kn kc])->w'.cell? ⟨w.heap.size,0,none⟩=some (.slice CA cn cc) from fun w' h=>h.2.cell 0)
 have L1:=Lib.hid (show ∀ w',(Below w.heap.size w w'/\Blk w' w.heap.size 48 #[.slice CA cn cc,.slice KA kn kc])->w'.cell? ⟨w.heap.size,1,none⟩=some (.slice KA kn kc) from fun w' h=>h.2.cell 1)
 have hbs:w.heap.size<=W.heap.size:=HB.out.size
 clear h
 go_enter Tryz.func52,Tryz.ntmps52
 go_wp2
 try rw [hW1]
 clear hW1
 have hS:Below w.heap.size w W.drew/\Blk W.drew w.heap.size 48 #[.slice CA cn cc,.slice KA kn kc]:=⟨HB.out.drew,BS.out.drew⟩
 have BT:=Lib.hid BT.out.drew
 refine hR (fun w'=>Below w.heap.size w w'/\Blk w' w.heap.size 48 #[.slice CA cn cc,.slice KA kn kc]) [ff 0,ff 1,ff 3,ff 4,tt 2,tt 5,ff 6,tt 7] ?_
 refine hP hS ?_
 refine hP1 hS L0.out ?_
 refine hP hS ?_
 refine hP1 hS L1.out ?_
 refine hE fun K hK=>?_
 go_simp
 with_reducible refine (copyCols_any CA cn cc s.1 _ (HSt.out _ hS.1).cols hcn).mono ?_
 rintro e w3 ⟨A1,c1,rfl,q1,q2,ho,hb⟩
 have HO1:=Lib.hid (own_mono ho hS.1.size)
 have Hc1:=Lib.hid (And.intro q1 q2)
 have HS:=Lib.hid (And.intro (bon hS.1 hb) (hS.2.on hb))
 have BT:=Lib.hid (BT.out.on hb)
 clear ho hb q1 q2
 refine held_go hK (by exact HS.out) fun hS=>?_
 clear hK K
 try simp only [zp]
 clear HS
 refine hE fun K hK=>?_
 go_simp
 with_reducible refine (copyInts_any KA kn kc s.2 _ (HSt.out _ hS.1).keys (by omega)).mono ?_
 rintro e w4 ⟨A2,c2,rfl,q1,q2,ho,hb⟩
 have HO1:=Lib.hid (own_below HO1.out hb)
 have HO2:=Lib.hid (own_mono ho hS.1.size)
 have Hc2:=Lib.hid (And.intro q1 q2)
 have HS:=Lib.hid (And.intro (bon hS.1 hb) (hS.2.on hb))
 have BT:=Lib.hid (BT.out.on hb)
 clear ho hb q1 q2
 refine held_go hK (by exact HS.out) fun hS=>?_
 clear hK K
 try simp only [zp]
 clear HS
 refine hP hS ?_
 have t0:=BT.out.cell 0
 have t1:=BT.out.cell 1
 have g0:=BT.out.frozen 0
 have g1:=BT.out.frozen 1
 refine hE fun K hK=>?_
 go_simp
 clear t0 t1 g0 g1
 have hlow:w.heap.size<=w.heap.size+1:=by omega
 have hne:w.heap.size≠w.heap.size+1:=by omega
 have HO1:=Lib.hid (own_far (own_far HO1.out BT.out (by decide) 0 (.slice A1 cn c1)) (BT.out.set_ 0 (.slice A1 cn c1)) (by decide) 1 (.slice A2 kn c2))
 have HO2:=Lib.hid (own_far (own_far HO2.out BT.out (by decide) 0 (.slice A1 cn c1)) (BT.out.set_ 0 (.slice A1 cn c1)) (by decide) 1 (.slice A2 kn c2))
 have HS:=Lib.hid (And.intro ((hS.1.setCell (p:=⟨w.heap.size+1,0,none⟩) hlow (.slice A1 cn c1)).setCell (p:=⟨w.heap.size+1,1,none⟩) hlow (.slice A2 kn c2)) ((hS.2.far (p:=⟨w.heap.size+1,0,none⟩) hne (.slice A1 cn c1)).far (p:=⟨w.heap.size+1,1,none⟩) hne (.slice A2 kn c2)))
 have BT:=Lib.hid ((BT.out.set_ 0 (.slice A1 cn c1)).set_ 1 (.slice A2 kn c2))
 simp only [List.setIfInBounds_toArray,List.set_cons_succ,List.set_cons_zero] at BT
 refine held_go hK (by exact HS.out) fun hS=>?_
 clear hK K
 try simp only [zp]
 refine held_end ?_
 generalize (w4.setCell ⟨w.heap.size+1,0,none⟩ (.slice A1 cn c1)).setCell ⟨w.heap.size+1,1,none⟩ (.slice A2 kn c2)=WF at *
 have r0:=BT.out.cell 0
 have r1:=BT.out.cell 1
 go_wp2
 refine bodyPost_ret (v:=.agg #[.slice A1 cn c1,.slice A2 kn c2]) (by simp [results,Tryz.results52,go_sem,r0,r1]) rfl ?_
 exact ⟨A1,c1,A2,c2,rfl,Hc1.out,Hc2.out,HO1.out,HO2.out,hS.1⟩
end Go.Proofs.YtjpjalmilfgckaaGreatDoor
namespace Go.Proofs.YtjpjalmilfgckaaGreatDoor
open Go.RowKit
theorem plb_fjoin {P:Program} {ops:Array Oper} {Q:Exit->Act->World->Prop} {S:World->Prop} {i j:Nat} {p q:PlanB} {a:Act} {w:World} {Φ:Prop} (h1:Hid Φ->wpPlb P ops Q S (.eff i p) a w) (h2:Hid Φ->wpPlb P ops Q S (.eff j q) a w) (h:Φ):wpPlb P ops Q S (.fork i j p q) a w:=plb_fork (h1 (Lib.hid h)) (h2 (Lib.hid h))
theorem plb_bjoin {P:Program} {ops:Array Oper} {Q:Exit->Act->World->Prop} {S:World->Prop} {i j:Nat} {p:PlanB} {a:Act} {w:World} {Φ:Prop} (h1:Hid Φ->wpPlb P ops Q S (.eff i (.eff j p)) a w) (h2:Hid Φ->wpPlb P ops Q S (.eff j (.eff i p)) a w) (h:Φ):wpPlb P ops Q S (.both i j p) a w:=plb_both (h1 (Lib.hid h)) (h2 (Lib.hid h))
theorem own_setS {w:World} {base size:Nat} {e:TypeId} {n c g:Nat} {xs:List Value} (h:w.ownsRow base e size (.slice (some ⟨g,0,none⟩) n c) n xs) (j:Nat) (u:Value) :
  (w.setCell ⟨g,j,none⟩ u).ownsRow base e size (.slice (some ⟨g,0,none⟩) n c) n (xs.set j u):=by
 rcases h.2 with ⟨h0,_⟩ | ⟨g',cap,cur,hv,hb,hh,h1,h2,h3,h4⟩
 ·cases h0
 injection hv with hA _ hc
 injection hA with hA
 injection hA with hA
 subst hA hc
 refine ⟨by simpa using h.1,.inr ⟨g,c,cur.setIfInBounds j u,rfl,hb,Blk.set_ (w:=w) hh j u,h1,h2,by simpa using h3,?_⟩⟩
 rw [<-h4]
 simp [Array.toList_setIfInBounds,List.take_set]
theorem own_atS {w:World} {base size:Nat} {e:TypeId} {n c:Nat} {A:Option Addr} {xs:List Value} (h:w.ownsRow base e size (.slice A n c) n xs) (hn:0<n) :
  ∃ g,A=some ⟨g,0,none⟩/\base<=g/\g<w.heap.size/\(∀ j u,xs[j]? = some u->w.cell? ⟨g,j,none⟩=some u)/\(∀ j,w.frozen? ⟨g,j,none⟩=false):=by
 rcases h.2 with ⟨h0,h1⟩ | ⟨g,cap,cur,hv,hb,hh,h1,h2,h3,h4⟩
 ·omega
 injection hv with hA _ hc
 subst hA hc
 refine ⟨g,rfl,hb,Blk.lt hh,fun j u hu=>?_,fun j=>Blk.frozen hh j⟩
 have:=World.ownsRow.cells h (g:=g) rfl j u hu
 rwa [show (⟨g,0,none⟩:Addr).add j=⟨g,j,none⟩ by unfold Addr.add;split<;>simp_all] at this
theorem own_not_blk {w:World} {base size n c g g2:Nat} {e t:TypeId} {xs:List Value} {cs:Array Value} (h:w.ownsRow base e size (.slice (some ⟨g2,0,none⟩) n c) n xs) (hb:Blk w g t cs) (hne:e≠t):g≠g2:=by
 rcases h.2 with ⟨h0,_⟩ | ⟨g3,cap,cur,hv,h1,h2,h3⟩
 ·cases h0
 injection hv with hA
 injection hA with hA
 injection hA with hA
 subst hA
 rintro rfl
 unfold Blk at hb
 rw [h2] at hb
 injection hb with hb
 injection hb with _ h4
 exact hne h4
theorem set_same {α:Type} {xs:List α} {j:Nat} {u:α} (h:xs[j]? = some u):xs.set j u=xs:=by
 obtain ⟨hj,rfl⟩:=List.getElem?_eq_some_iff.1 h
 exact List.set_getElem_self hj
theorem cos_at7 {l:List Co} {i k:Nat} {c:Co} {v:Value} (h:l[i]? = some c) (hk:k<7) (hv:(coV c)[k]? = some v):(cos l)[i*7+k]? = some v:=by
 unfold cos
 rw [flatMap_at _ 7 (fun _=>rfl) l i k c h hk]
 exact hv
theorem cos_cons (x:Co) (l:List Co):cos (x::l)=coV x++cos l:=rfl
theorem cos_set6:∀ {l:List Co} {i:Nat} {c:Co} (s:ByteArray),l[i]? = some c->(cos l).set (i*7+6) (.string s)=cos (l.set i (c.1,c.2.1,c.2.2.1,c.2.2.2.1,c.2.2.2.2.1,c.2.2.2.2.2.1,s))
 | [],i,c,s,h=>by simp at h
 | x::l,0,c,s,h=>by
  simp only [List.getElem?_cons_zero,Option.some.injEq] at h
  subst h
  rfl
 | x::l,i+1,c,s,h=>by
  rw [List.getElem?_cons_succ] at h
  rw [cos_cons,List.set_cons_succ,cos_cons,<-cos_set6 s h,List.set_append_right _ _ (by show (coV x).length<=_;rw [show (coV x).length=7 from rfl];omega)]
  congr 2
  rw [show (coV x).length=7 from rfl]
  omega
def mixC (l:List Co) (i:Nat):List Co:=(l.take i).map cutco++l.drop i
theorem mixC_zero (l:List Co):mixC l 0=l:=rfl
theorem mixC_all {l:List Co} {i:Nat} (h:l.length<=i):mixC l i=l.map cutco:=by
 unfold mixC
 rw [List.take_of_length_le h,List.drop_of_length_le h,List.append_nil]
theorem mixC_at {l:List Co} {i:Nat} {c:Co} (h:l[i]? = some c):(mixC l i)[i]? = some c:=by
 have hi:=(List.getElem?_eq_some_iff.1 h).1
 unfold mixC
 rw [List.getElem?_append_right (by simp;omega)]
 simp only [List.length_map,List.length_take,Nat.min_eq_left (Nat.le_of_lt hi),Nat.sub_self,List.getElem?_drop,Nat.add_zero]
 exact h
theorem mixC_set {l:List Co} {i:Nat} {c:Co} (h:l[i]? = some c):(mixC l i).set i (cutco c)=mixC l (i+1):=by
 have hi:=(List.getElem?_eq_some_iff.1 h).1
 have hl:((l.take i).map cutco).length=i:=by simp;omega
 unfold mixC
 rw [List.set_append_right _ _ (by omega),hl,Nat.sub_self,drop_at h,List.set_cons_zero,List.take_add_one,h,List.map_append,List.append_assoc]
 rfl
theorem take_min {α:Type} (l:List α) (n k:Nat) (h:l.length=n):l.take (min n k)=l.take k:=by
 rcases Nat.lt_or_ge n k with h1 | h1
 ·rw [List.take_of_length_le (by omega),List.take_of_length_le (by omega)]
 rw [Nat.min_eq_right h1]
theorem own_blkS {w:World} {base size n c g:Nat} {e:TypeId} {xs:List Value} (h:w.ownsRow base e size (.slice (some ⟨g,0,none⟩) n c) n xs):∃ cs,Blk w g e cs:=by
 rcases h.2 with ⟨h0,_⟩ | ⟨g',cap,cur,hv,hb,hh,h1⟩
 ·cases h0
 injection hv with hA
 injection hA with hA
 injection hA with hA
 subst hA
 exact ⟨cur,hh⟩
section
variable {w:World} {g j:Nat} {a0 a1 a2 a3 a4 a5 a6:Value}
theorem set7_far {k:Nat} {t:TypeId} {cs:Array Value} (h:Blk w k t cs) (hk:k≠g):Blk (((((((w.setCell ⟨g,j,none⟩ a0).setCell ⟨g,j+1,none⟩ a1).setCell ⟨g,j+2,none⟩ a2).setCell ⟨g,j+3,none⟩ a3).setCell ⟨g,j+4,none⟩ a4).setCell ⟨g,j+5,none⟩ a5).setCell ⟨g,j+6,none⟩ a6) k t cs:=
 ((((((h.far (p:=⟨g,j,none⟩) hk a0).far (p:=⟨g,j+1,none⟩) hk a1).far (p:=⟨g,j+2,none⟩) hk a2).far (p:=⟨g,j+3,none⟩) hk a3).far (p:=⟨g,j+4,none⟩) hk a4).far (p:=⟨g,j+5,none⟩) hk a5).far (p:=⟨g,j+6,none⟩) hk a6
theorem set7_below {B:Nat} {w0:World} (h:Below B w0 w) (hB:B<=g):Below B w0 (((((((w.setCell ⟨g,j,none⟩ a0).setCell ⟨g,j+1,none⟩ a1).setCell ⟨g,j+2,none⟩ a2).setCell ⟨g,j+3,none⟩ a3).setCell ⟨g,j+4,none⟩ a4).setCell ⟨g,j+5,none⟩ a5).setCell ⟨g,j+6,none⟩ a6):=
 ((((((h.setCell (p:=⟨g,j,none⟩) hB a0).setCell (p:=⟨g,j+1,none⟩) hB a1).setCell (p:=⟨g,j+2,none⟩) hB a2).setCell (p:=⟨g,j+3,none⟩) hB a3).setCell (p:=⟨g,j+4,none⟩) hB a4).setCell (p:=⟨g,j+5,none⟩) hB a5).setCell (p:=⟨g,j+6,none⟩) hB a6
theorem set7_own {base size n:Nat} {e t:TypeId} {v:Value} {xs:List Value} {cs:Array Value} (h:w.ownsRow base e size v n xs) (hb:Blk w g t cs) (hne:e≠t):World.ownsRow (((((((w.setCell ⟨g,j,none⟩ a0).setCell ⟨g,j+1,none⟩ a1).setCell ⟨g,j+2,none⟩ a2).setCell ⟨g,j+3,none⟩ a3).setCell ⟨g,j+4,none⟩ a4).setCell ⟨g,j+5,none⟩ a5).setCell ⟨g,j+6,none⟩ a6) base e size v n xs:=
 own_far (own_far (own_far (own_far (own_far (own_far (own_far h hb hne j a0) (hb.set_ j a0) hne (j+1) a1) ((hb.set_ j a0).set_ (j+1) a1) hne (j+2) a2) (((hb.set_ j a0).set_ (j+1) a1).set_ (j+2) a2) hne (j+3) a3) ((((hb.set_ j a0).set_ (j+1) a1).set_ (j+2) a2).set_ (j+3) a3) hne (j+4) a4) (((((hb.set_ j a0).set_ (j+1) a1).set_ (j+2) a2).set_ (j+3) a3).set_ (j+4) a4) hne (j+5) a5) ((((((hb.set_ j a0).set_ (j+1) a1).set_ (j+2) a2).set_ (j+3) a3).set_ (j+4) a4).set_ (j+5) a5) hne (j+6) a6
theorem set7_row {base size n c:Nat} {e:TypeId} {xs:List Value} (h:w.ownsRow base e size (.slice (some ⟨g,0,none⟩) n c) n xs):World.ownsRow (((((((w.setCell ⟨g,j,none⟩ a0).setCell ⟨g,j+1,none⟩ a1).setCell ⟨g,j+2,none⟩ a2).setCell ⟨g,j+3,none⟩ a3).setCell ⟨g,j+4,none⟩ a4).setCell ⟨g,j+5,none⟩ a5).setCell ⟨g,j+6,none⟩ a6) base e size (.slice (some ⟨g,0,none⟩) n c) n (((((((xs.set j a0).set (j+1) a1).set (j+2) a2).set (j+3) a3).set (j+4) a4).set (j+5) a5).set (j+6) a6):=
 own_setS (own_setS (own_setS (own_setS (own_setS (own_setS (own_setS h j a0) (j+1) a1) (j+2) a2) (j+3) a3) (j+4) a4) (j+5) a5) (j+6) a6
end
set_option maxHeartbeats 4000000 in
theorem columns28_any (CA:Option Addr) (cn cc:Nat) (KA:Option Addr) (kn kc:Nat) (s:Sc) (w:World) (h:ScAt w CA cn KA kn s) (hcn:cn<=cc) (hcc:cc<=maxLen) (hkn:kn<=kc) (hkc:kc<=maxLen) (hok:ScOk s) :
  Calls Tryz.prog 17 #[.agg #[.slice CA cn cc,.slice KA kn kc]] w fun e w'=>∃ A1 n1 c1 A2 n2 c2,e=.returned (.agg #[.slice A1 n1 c1,.slice A2 n2 c2])/\n1<=40/\n2<=12 /\
   w'.ownsRow w.heap.size 45 7 (.slice A1 n1 c1) n1 (cos (cutsc s).1)/\w'.ownsRow w.heap.size 3 1 (.slice A2 n2 c2) n2 (ins (cutsc s).2)/\Below w.heap.size w w':=by
 obtain ⟨mn,hmn⟩:∃ mn:Nat,mn=min cn 40:=⟨_,rfl⟩
 obtain ⟨kn2,hkn2⟩:∃ k:Nat,k=min kn 12:=⟨_,rfl⟩
 have hmi:min (cn:Int) 40=(mn:Int):=by omega
 have hki:min (kn:Int) 12=(kn2:Int):=by omega
 have h1:mn<=cn:=by omega
 have h2:mn<=40:=by omega
 have h3:mn<=cc:=by omega
 have h4:(mn:Int)<=(cc:Int):=by omega
 have k1:kn2<=kn:=by omega
 have k2:kn2<=12:=by omega
 have k3:kn2<=kc:=by omega
 have k4:(kn2:Int)<=(kc:Int):=by omega
 have hcc63:cc<=9223372036854775807:=by simp only [maxLen] at hcc;omega
 have hkc63:kc<=9223372036854775807:=by simp only [maxLen] at hkc;omega
 have hSc:ScAt w CA mn KA kn2 (s.1.take 40,s.2.take 12):=by
  have e1:=h.cols.head h1
  have e2:=h.keys.head k1
  rw [cos_take,hmn,take_min _ _ _ (cos_len h.cols),<-hmn] at e1
  rw [Nat.mul_one,ins_take,hkn2,take_min _ _ _ (ins_len h.keys),<-hkn2] at e2
  exact ⟨e1,e2⟩
 have Hml:=Lib.hid (cos_len hSc.cols)
 have Hok:=Lib.hid hok
 clear hmn hkn2 h hok
 obtain ⟨W,hW1⟩:∃ W,(w.alloc (.cells #[.slice CA cn cc,.slice KA kn kc] 48)).alloc (.cells #[.slice none 0 0,.slice none 0 0] 48)=W:=⟨_,rfl⟩
 have HB:=Lib.hid (show Below w.heap.size w W by rw [<-hW1];exact bal (bal (Below.refl _ _) _) _)
 have HWs:=Lib.hid (show W.heap.size=w.heap.size+2 by rw [<-hW1];simp)
 have HSt:=Lib.hid (show ∀ w',Below W.heap.size W w'->ScAt w' CA mn KA kn2 (s.1.take 40,s.2.take 12) from fun w' hb=>hSc.on (bon HB.out hb))
 have L0:=Lib.hid (show ∀ w',Below W.heap.size W w'->w'.cell? ⟨w.heap.size,0,none⟩=some (.slice CA cn cc) from fun w' hb=>((show Blk W w.heap.size 48 #[.slice CA cn cc,.slice KA kn kc] by rw [<-hW1];exact (Blk.new w _ _).alloc _).on hb).cell 0)
 have L1:=Lib.hid (show ∀ w',Below W.heap.size W w'->w'.cell? ⟨w.heap.size,1,none⟩=some (.slice KA kn kc) from fun w' hb=>((show Blk W w.heap.size 48 #[.slice CA cn cc,.slice KA kn kc] by rw [<-hW1];exact (Blk.new w _ _).alloc _).on hb).cell 1)
 have BT:=Lib.hid (show Blk W (w.heap.size+1) 48 #[.slice none 0 0,.slice none 0 0] by rw [<-hW1];exact Blk.new' _ _ _ _ (by simp))
 clear hSc
 go_enter Tryz.func17,Tryz.ntmps17
 go_wp2
 try rw [hW1]
 clear hW1
 have hS:Below W.heap.size W W.drew:=(Below.refl _ _).drew
 refine bR (fun w'=>Below W.heap.size W w') (.pure 0 (.pure 1 (.pure 2 (.pure 3 (.pure 4 (.pure 5 (.pure 6 (.pure 7 (.pure 8 (.pure 9 (.pure 10 (.pure 11 (.pure 12 (.pure 13 (.pure 14 (.both 15 16 (.eff 17 .done))))))))))))))))) ?_
 refine bP hS ?_
 refine bP1 hS L0.out ?_
 refine bP hS ?_
 refine bP1 hS L0.out ?_
 iterate 4
  refine bP hS ?_
 refine bP1 hS L1.out ?_
 refine bP hS ?_
 refine bP1 hS L1.out ?_
 iterate 4
  refine bP hS ?_
 apply plb_bjoin
 case h1=>
  intro hΦ
  refine bE fun K hK=>?_
  go_simp
  with_reducible refine (copySc_any CA mn cc KA kn2 kc (s.1.take 40,s.2.take 12) _ (HSt.out _ hS) (by omega) (by omega)).mono ?_
  rintro e w2 ⟨A1,c1,A2,c2,rfl,-,-,ho1,ho2,hb⟩
  have HO1:=Lib.hid (own_mono ho1 hS.size)
  have HO2:=Lib.hid (own_mono ho2 hS.size)
  have HS:=Lib.hid (bon hS hb)
  clear ho1 ho2 hb
  refine held_go hK (by exact HS.out) fun hS=>?_
  clear hK K
  try simp only [zp]
  clear HS
  refine bE fun K hK=>?_
  go_simp
  replace HO1:=Lib.hid (own_below HO1.out (bal (Below.refl w2.heap.size w2) (.cells #[.slice none 0 0,.slice none 0 0] 48)))
  replace HO2:=Lib.hid (own_below HO2.out (bal (Below.refl w2.heap.size w2) (.cells #[.slice none 0 0,.slice none 0 0] 48)))
  have BZ:=Lib.hid (Blk.new w2 48 #[.slice none 0 0,.slice none 0 0])
  have HS:=Lib.hid (bal hS (.cells #[.slice none 0 0,.slice none 0 0] 48))
  have Hz:=Lib.hid (show W.heap.size<=w2.heap.size from hS.size)
  refine held_go hK (by exact HS.out) fun hS=>?_
  clear hK K
  try simp only [zp]
  clear HS
  have HA:=Lib.hid (And.intro HO1.out (And.intro HO2.out (And.intro BZ.out (And.intro Hz.out hS))))
  clear HO1 HO2 BZ hS
  generalize w2.alloc (.cells #[.slice none 0 0,.slice none 0 0] 48)=w4 at *
  generalize w2.heap.size=z at *
  clear Hz
  revert HA
  revert w4
  revert z
  revert c2
  revert A2
  revert c1
  revert A1
  exact hΦ.out
 case h2=>
  intro hΦ
  refine bE fun K hK=>?_
  go_simp
  have BZ:=Lib.hid (Blk.new W.drew 48 #[.slice none 0 0,.slice none 0 0])
  have HS:=Lib.hid (bal hS (.cells #[.slice none 0 0,.slice none 0 0] 48))
  have Hz:=Lib.hid (show W.heap.size<=W.drew.heap.size from hS.size)
  refine held_go hK (by exact HS.out) fun hS=>?_
  clear hK K
  try simp only [zp]
  clear HS
  refine bE fun K hK=>?_
  go_simp
  with_reducible refine (copySc_any CA mn cc KA kn2 kc (s.1.take 40,s.2.take 12) _ (HSt.out _ hS) (by omega) (by omega)).mono ?_
  rintro e w2 ⟨A1,c1,A2,c2,rfl,-,-,ho1,ho2,hb⟩
  have HO1:=Lib.hid (own_mono ho1 hS.size)
  have HO2:=Lib.hid (own_mono ho2 hS.size)
  have HS:=Lib.hid (bon hS hb)
  replace BZ:=Lib.hid (BZ.out.on hb)
  clear ho1 ho2 hb
  refine held_go hK (by exact HS.out) fun hS=>?_
  clear hK K
  try simp only [zp]
  clear HS
  have HA:=Lib.hid (And.intro HO1.out (And.intro HO2.out (And.intro BZ.out (And.intro Hz.out hS))))
  clear HO1 HO2 BZ hS
  revert HA
  exact fun HA=>hΦ.out A1 c1 A2 c2 _ w2 HA
 intro A1 c1 A2 c2 z w4 HA
 have HO1:=Lib.hid HA.out.1
 have HO2:=Lib.hid HA.out.2.1
 have BZ:=Lib.hid HA.out.2.2.1
 have Hz:=Lib.hid HA.out.2.2.2.1
 have hS:=HA.out.2.2.2.2
 clear HA
 have f0:=BZ.out.frozen 0
 have f1:=BZ.out.frozen 1
 have a0:=BZ.out.cell 0
 have a1:=BZ.out.cell 1
 refine bE fun K hK=>?_
 go_simp
 clear f0 f1 a0 a1
 have HO1:=Lib.hid (own_far (own_far HO1.out BZ.out (by decide) 0 (.slice A1 mn c1)) (BZ.out.set_ 0 (.slice A1 mn c1)) (by decide) 1 (.slice A2 kn2 c2))
 have HO2:=Lib.hid (own_far (own_far HO2.out BZ.out (by decide) 0 (.slice A1 mn c1)) (BZ.out.set_ 0 (.slice A1 mn c1)) (by decide) 1 (.slice A2 kn2 c2))
 have HS:=Lib.hid ((hS.setCell (p:=⟨z,0,none⟩) Hz.out (.slice A1 mn c1)).setCell (p:=⟨z,1,none⟩) Hz.out (.slice A2 kn2 c2))
 have BZ:=Lib.hid ((BZ.out.set_ 0 (.slice A1 mn c1)).set_ 1 (.slice A2 kn2 c2))
 simp only [List.setIfInBounds_toArray,List.set_cons_succ,List.set_cons_zero] at BZ
 refine held_go hK (by exact HS.out) fun hS=>?_
 clear hK K
 try simp only [zp]
 refine plb_end ?_
 have HB2:=Lib.hid (bon HB.out hS)
 have BT:=Lib.hid (BT.out.on hS)
 have HO1:=Lib.hid (own_mono HO1.out HB.out.size)
 have HO2:=Lib.hid (own_mono HO2.out HB.out.size)
 have Hzw:=Lib.hid (show w.heap.size+1<z/\w.heap.size<=z by
  have e1:=Hz.out
  have e2:=HWs.out
  omega)
 clear HS hS HB HSt L0 L1
 generalize (w4.setCell ⟨z,0,none⟩ (.slice A1 mn c1)).setCell ⟨z,1,none⟩ (.slice A2 kn2 c2)=W5 at *
 rw [<-mixC_zero (s.1.take 40)] at HO1
 go_wp2
 go_loopw [4] (fun iv wr=>∃ i:Nat,i<=mn/\iv=.int .i64 (i:Int)/\Hid (wr.ownsRow w.heap.size 45 7 (.slice A1 mn c1) mn (cos (mixC (s.1.take 40) i)))/\Hid (wr.ownsRow w.heap.size 3 1 (.slice A2 kn2 c2) kn2 (ins (s.2.take 12)))/\Hid (Blk wr z 48 #[.slice A1 mn c1,.slice A2 kn2 c2])/\Hid (Blk wr (w.heap.size+1) 48 #[.slice none 0 0,.slice none 0 0])/\Hid (Below w.heap.size w wr)) (fun iv _=>mn-(intOf iv).toNat)
 case atStart=>exact ⟨0,Nat.zero_le _,rfl,HO1,HO2,BZ,BT,HB2⟩
 case round=>
  clear HO1 HO2 BZ BT HB2
  obtain ⟨i,hi,rfl,HO1,HO2,BZ,BT,HB2⟩:=hrel
  have z0:=BZ.out.cell 0
  by_cases hlt:i<mn
  ·have d1:decide ((i:Int)<(mn:Int))=true:=by simp;omega
   have hii:(i:Int)<(mn:Int):=by omega
   have hic:(i:Int)<(c1:Int):=by have:=(own_caps2 HO1.out).1;omega
   have hin:i<(s.1.take 40).length:=by rw [Hml.out];exact hlt
   obtain ⟨co,hco⟩:∃ co,(s.1.take 40)[i]? = some co:=⟨_,List.getElem?_eq_getElem hin⟩
   have hsz:co.2.2.2.2.2.2.size<=9223372036854775807:=by have:=Hok.out.str co (List.mem_of_mem_take (List.mem_of_getElem? hco));simp only [maxLen] at this;omega
   obtain ⟨g,rfl,hg1,hg2,hcell,hfr⟩:=own_atS HO1.out (by omega)
   have hmx:=mixC_at hco
   have r0:=hcell _ _ (cos_at7 (k:=0) hmx (by decide) rfl)
   have r1:=hcell _ _ (cos_at7 (k:=1) hmx (by decide) rfl)
   have r2:=hcell _ _ (cos_at7 (k:=2) hmx (by decide) rfl)
   have r3:=hcell _ _ (cos_at7 (k:=3) hmx (by decide) rfl)
   have r4:=hcell _ _ (cos_at7 (k:=4) hmx (by decide) rfl)
   have r5:=hcell _ _ (cos_at7 (k:=5) hmx (by decide) rfl)
   have r6:=hcell _ _ (cos_at7 (k:=6) hmx (by decide) rfl)
   rw [Nat.add_zero] at r0
   have g0:=hfr (i*7)
   have g1:=hfr (i*7+1)
   have g2:=hfr (i*7+2)
   have g3:=hfr (i*7+3)
   have g4:=hfr (i*7+4)
   have g5:=hfr (i*7+5)
   have g6:=hfr (i*7+6)
   obtain ⟨sm,hsm⟩:∃ sm:Nat,sm=min co.2.2.2.2.2.2.size 300:=⟨_,rfl⟩
   have hsmi:min (co.2.2.2.2.2.2.size:Int) 300=(sm:Int):=by omega
   have hsm1:sm<=co.2.2.2.2.2.2.size:=by omega
   have HL:=Lib.hid (show ((((((((cos (mixC (s.1.take 40) i)).set (i*7) (.int .i64 co.1)).set (i*7+1) (.string co.2.1)).set (i*7+2) (.int .i64 co.2.2.1)).set (i*7+3) (.bool co.2.2.2.1)).set (i*7+4) (.bool co.2.2.2.2.1)).set (i*7+5) (.int .i64 co.2.2.2.2.2.1)).set (i*7+6) (.string (co.2.2.2.2.2.2.extract 0 sm)))=cos (mixC (s.1.take 40) (i+1)) by
    have q0:=cos_at7 (k:=0) hmx (by decide) rfl
    rw [Nat.add_zero] at q0
    rw [set_same q0,set_same (cos_at7 (k:=1) hmx (by decide) rfl),set_same (cos_at7 (k:=2) hmx (by decide) rfl),set_same (cos_at7 (k:=3) hmx (by decide) rfl),set_same (cos_at7 (k:=4) hmx (by decide) rfl),set_same (cos_at7 (k:=5) hmx (by decide) rfl),cos_set6 _ hmx,<-mixC_set hco,hsm]
    rfl)
   have Hg:=Lib.hid hg1
   have Hgz:=Lib.hid (show z≠g/\w.heap.size+1≠g from ⟨own_not_blk HO1.out BZ.out (by decide),own_not_blk HO1.out BT.out (by decide)⟩)
   have hzl:z<wr.heap.size:=BZ.out.lt
   have z0a:(wr.alloc (.cells #[.int .i64 co.1,.string co.2.1,.int .i64 co.2.2.1,.bool co.2.2.2.1,.bool co.2.2.2.2.1,.int .i64 co.2.2.2.2.2.1,.string (co.2.2.2.2.2.2.extract 0 sm)] 45)).cell? ⟨z,0,none⟩=some (.slice (some ⟨g,0,none⟩) mn c1):=(BZ.out.alloc _).cell 0
   clear hcell hfr hmx hco hsm hin hg1
   go_wp2
   obtain ⟨cs,hcs⟩:=own_blkS HO1.out
   have HBn:=Lib.hid (set7_below (j:=i*7) (a0:=.int .i64 co.1) (a1:=.string co.2.1) (a2:=.int .i64 co.2.2.1) (a3:=.bool co.2.2.2.1) (a4:=.bool co.2.2.2.2.1) (a5:=.int .i64 co.2.2.2.2.2.1) (a6:=.string (co.2.2.2.2.2.2.extract 0 sm)) HB2.out Hg.out)
   have HZn:=Lib.hid (set7_far (j:=i*7) (a0:=.int .i64 co.1) (a1:=.string co.2.1) (a2:=.int .i64 co.2.2.1) (a3:=.bool co.2.2.2.1) (a4:=.bool co.2.2.2.2.1) (a5:=.int .i64 co.2.2.2.2.2.1) (a6:=.string (co.2.2.2.2.2.2.extract 0 sm)) BZ.out Hgz.out.1)
   have HTn:=Lib.hid (set7_far (j:=i*7) (a0:=.int .i64 co.1) (a1:=.string co.2.1) (a2:=.int .i64 co.2.2.1) (a3:=.bool co.2.2.2.1) (a4:=.bool co.2.2.2.2.1) (a5:=.int .i64 co.2.2.2.2.2.1) (a6:=.string (co.2.2.2.2.2.2.extract 0 sm)) BT.out Hgz.out.2)
   have HO2n:=Lib.hid (set7_own (j:=i*7) (a0:=.int .i64 co.1) (a1:=.string co.2.1) (a2:=.int .i64 co.2.2.1) (a3:=.bool co.2.2.2.1) (a4:=.bool co.2.2.2.2.1) (a5:=.int .i64 co.2.2.2.2.2.1) (a6:=.string (co.2.2.2.2.2.2.extract 0 sm)) HO2.out hcs (by decide))
   have HO1n:=set7_row (j:=i*7) (a0:=.int .i64 co.1) (a1:=.string co.2.1) (a2:=.int .i64 co.2.2.1) (a3:=.bool co.2.2.2.1) (a4:=.bool co.2.2.2.2.1) (a5:=.int .i64 co.2.2.2.2.2.1) (a6:=.string (co.2.2.2.2.2.2.extract 0 sm)) HO1.out
   rw [HL.out] at HO1n
   have HO1n:=Lib.hid HO1n
   generalize (((((((wr.setCell ⟨g,i*7,none⟩ (.int .i64 co.1)).setCell ⟨g,i*7+1,none⟩ (.string co.2.1)).setCell ⟨g,i*7+2,none⟩ (.int .i64 co.2.2.1)).setCell ⟨g,i*7+3,none⟩ (.bool co.2.2.2.1)).setCell ⟨g,i*7+4,none⟩ (.bool co.2.2.2.2.1)).setCell ⟨g,i*7+5,none⟩ (.int .i64 co.2.2.2.2.2.1)).setCell ⟨g,i*7+6,none⟩ (.string (co.2.2.2.2.2.2.extract 0 sm)))=W8 at *
   have hba:=(Below.refl W8.heap.size W8).alloc (Nat.le_refl _) (.cells #[.int .i64 co.1,.string co.2.1,.int .i64 co.2.2.1,.bool co.2.2.2.1,.bool co.2.2.2.2.1,.int .i64 co.2.2.2.2.2.1,.string (co.2.2.2.2.2.2.extract 0 sm)] 45)
   go_roundw
   case rel=>exact ⟨i+1,by omega,by go_num,Lib.hid (own_below HO1n.out hba),Lib.hid (own_below HO2n.out hba),Lib.hid (HZn.out.on hba),Lib.hid (HTn.out.on hba),Lib.hid (bon HBn.out hba)⟩
   case measure=>simp [intOf];omega
  have d1:decide ((i:Int)<(mn:Int))=false:=by simp;omega
  have HE:=Lib.hid (mixC_all (l:=s.1.take 40) (i:=i) (by rw [Hml.out];omega))
  rw [HE.out] at HO1
  have t0:=BT.out.cell 0
  have t1:=BT.out.cell 1
  have f0:=BT.out.frozen 0
  have f1:=BT.out.frozen 1
  have z1:=BZ.out.cell 1
  go_wp2
  have HTf:=(BT.out.set_ 0 (.slice A1 mn c1)).set_ 1 (.slice A2 kn2 c2)
  simp only [List.setIfInBounds_toArray,List.set_cons_succ,List.set_cons_zero] at HTf
  have r0:=HTf.cell 0
  have r1:=HTf.cell 1
  refine bodyPost_ret (v:=.agg #[.slice A1 mn c1,.slice A2 kn2 c2]) (by simp [results,Tryz.results17,go_sem,r0,r1]) rfl ?_
  have hlow:w.heap.size<=w.heap.size+1:=by omega
  exact ⟨A1,mn,c1,A2,kn2,c2,rfl,h2,k2,own_far (own_far HO1.out BT.out (by decide) 0 _) (BT.out.set_ 0 (.slice A1 mn c1)) (by decide) 1 _,own_far (own_far HO2.out BT.out (by decide) 0 _) (BT.out.set_ 0 (.slice A1 mn c1)) (by decide) 1 _,(HB2.out.setCell (p:=⟨w.heap.size+1,0,none⟩) hlow _).setCell (p:=⟨w.heap.size+1,1,none⟩) hlow _⟩
end Go.Proofs.YtjpjalmilfgckaaGreatDoor
