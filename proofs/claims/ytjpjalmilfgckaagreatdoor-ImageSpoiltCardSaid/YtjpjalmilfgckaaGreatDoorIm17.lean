/- Part 17 of the walks, merged: each text under its own heading. Conditions: none of its own; each lemma states what it asks. -/
import Derived.Test.YtjpjalmilfgckaaGreatDoorIm7
import Derived.Test.YtjpjalmilfgckaaGreatDoorIm10
import Derived.Test.YtjpjalmilfgckaaGreatDoorIm14
import Derived.Test.YtjpjalmilfgckaaGreatDoorIm15
import Derived.Test.YtjpjalmilfgckaaGreatDoorIm16
import Derived.Lib.SlBytesConst
import Derived.Laws.ResultCell
set_option maxRecDepth 100000
set_option linter.unusedVariables false
set_option linter.unusedSimpArgs false
namespace Go.Proofs.YtjpjalmilfgckaaGreatDoor
open Go.RowKit
structure But (B g:Nat) (w w':World):Prop where
 os:w'.os=w.os
 tape:w'.tape=w.tape
 output:w'.output=w.output
 size:w.heap.size<=w'.heap.size
 block:∀ k,k<B->k≠g->w'.heap[k]? = w.heap[k]?
section
variable {B g:Nat} {w w1 w2:World}
theorem But.refl (B g:Nat) (w:World):But B g w w:=⟨rfl,rfl,rfl,Nat.le_refl _,fun _ _ _=>rfl⟩
theorem But.trans (h:But B g w w1) (k:But B g w1 w2):But B g w w2:=⟨k.os.trans h.os,k.tape.trans h.tape,k.output.trans h.output,Nat.le_trans h.size k.size,fun i hi hg=>(k.block i hi hg).trans (h.block i hi hg)⟩
theorem But.of_below {B2:Nat} (h:Below B2 w w1) (hB:B<=B2):But B g w w1:=⟨h.os,h.tape,h.output,h.size,fun k hk _=>h.block k (Nat.lt_of_lt_of_le hk hB)⟩
theorem But.on (h:But w.heap.size g w w1) (hb:Below w1.heap.size w1 w2):But w.heap.size g w w2:=h.trans (But.of_below hb h.size)
theorem But.al (h:But w.heap.size g w w1) (o:Obj):But w.heap.size g w (w1.alloc o):=h.on ((Below.refl _ _).alloc (Nat.le_refl _) o)
theorem But.drew (h:But B g w w1):But B g w w1.drew:=⟨h.os,h.tape,h.output,h.size,h.block⟩
theorem But.set (h:But B g w w1) (i:Nat) (u:Value):But B g w (w1.setCell ⟨g,i,none⟩ u):=
 ⟨h.os,h.tape,h.output,by simpa [World.setCell] using h.size,fun k hk hg=>(Below.heap_setCell w1 ⟨g,i,none⟩ u k hg).trans (h.block k hk hg)⟩
theorem But.far (h:But B g w w1) {p:Addr} (hp:B<=p.block) (u:Value):But B g w (w1.setCell p u):=
 ⟨h.os,h.tape,h.output,by simpa [World.setCell] using h.size,fun k hk hg=>(Below.heap_setCell w1 p u k (by omega)).trans (h.block k hk hg)⟩
theorem But.below {B2:Nat} (h:But B g w w1) (h1:B2<=B) (h2:B2<=g):Below B2 w w1:=⟨h.os,h.tape,h.output,h.size,fun k hk=>h.block k (Nat.lt_of_lt_of_le hk h1) (by omega)⟩
theorem But.blk0 {p:Addr} {v:Value} (h:But B g w w1) (hb:w.cell? p=some v) (hk:p.block<B) (hg:p.block≠g):w1.cell? p=some v:=(World.cell?_of_block (w:=w) (h.block _ hk hg)).trans hb
theorem But.blk {k:Nat} {t:TypeId} {cs:Array Value} (h:But B g w w1) (hb:Blk w k t cs) (hk:k<B) (hg:k≠g):Blk w1 k t cs:=(h.block k hk hg).trans hb
end
def Tab2 (B:Nat) (w:World):Prop:=TabB B w/\0<B/\CTab w
section
variable {B:Nat} {w w':World}
theorem Tab2.mk (h:Tabs w) (h2:CTab w):Tab2 w.heap.size w:=⟨h.low,World.block_lt_of_cell? _ _ (h2 0 (by decide)),h2⟩
theorem Tab2.keep (h:Tab2 B w) (hb:Below B w w'):Tab2 B w':=⟨h.1.keep hb,h.2.1,fun i hi=>(hb.cell (p:=⟨0,i,none⟩) h.2.1).trans (h.2.2 i hi)⟩
theorem Tab2.more {B2:Nat} (h:Tab2 B w) (hB:B<=B2):Tab2 B2 w:=⟨⟨Nat.lt_of_lt_of_le h.1.1 hB,Nat.lt_of_lt_of_le h.1.2.1 hB,h.1.2.2⟩,Nat.lt_of_lt_of_le h.2.1 hB,h.2.2⟩
theorem Tab2.on (h:Tab2 w.heap.size w) (hb:Below w.heap.size w w'):Tab2 w'.heap.size w':=(h.keep hb).more hb.size
theorem Tab2.tabs (h:Tab2 B w):Tabs w:=h.1.tabs
theorem Tab2.ctab (h:Tab2 B w):CTab w:=h.2.2
end
def numsH (v s m:Nat):List Nat:=[v,s,m]
def hdB (v s m k:Nat):List UInt8:=[77,83,1]++((numsH v s m).take k).flatMap leb
theorem hdB_three (v s:Int) (m:Nat):hdB v.toNat s.toNat m 3=headB v s m:=by simp [hdB,numsH,headB]
theorem hdB_succ (v s m k N:Nat) (h:(numsH v s m)[k]? = some N):hdB v s m (k+1)=hdB v s m k++leb N:=by
 unfold hdB
 rw [List.take_add_one,h]
 simp
theorem hdB_le (v s m k:Nat) (hk:k<=3):(hdB v s m k).length<=33:=by
 have h1:=leb_le v
 have h2:=leb_le s
 have h3:=leb_le m
 rcases (show k=0\/k=1\/k=2\/k=3 by omega) with rfl | rfl | rfl | rfl<;>simp [hdB,numsH]<;>omega
def natV (l:List Nat):List Value:=l.map fun (n:Nat)=>.int .u64 (n:Int)
theorem natV_get (xs:List Nat) (k:Nat) (v:Value) (h:(natV xs)[k]? = some v):∃ c:Nat,xs[k]? = some c/\v=.int .u64 (c:Int):=by
 simp only [natV,List.getElem?_map,Option.map_eq_some_iff] at h
 obtain ⟨c,h1,rfl⟩:=h
 exact ⟨c,h1,rfl⟩
theorem wrap_nat (v:Int) (h0:0<=v) (h1:v<=9223372036854775807):IntKind.u64.wrap v=((v.toNat:Nat):Int):=by
 have:IntKind.u64.wrap v=v % 18446744073709551616:=rfl
 rw [this]
 omega
theorem Blk.reads {w:World} {g:Nat} {t:TypeId} {cs:Array Value} (h:Blk w g t cs) (n:Nat) (xs:List Value) (hx:cs.toList=xs) (hn:xs.length=n):Reads w w.heap.size 1 (some ⟨g,0,none⟩) n xs:=by
 refine ⟨by omega,fun _=>⟨_,rfl,h.lt,fun j u hu=>?_⟩⟩
 have hadd:(⟨g,0,none⟩:Addr).add j=⟨g,j,none⟩:=by unfold Addr.add;split<;>simp_all
 rw [hadd,h.cell,<-Array.getElem?_toList,hx]
 exact hu
theorem Reads.setCellFar {w:World} {size n:Nat} {A:Option Addr} {xs:List Value} (h:Reads w w.heap.size size A n xs) {p:Addr} (hp:∀ ad,A=some ad->ad.block≠p.block) (u:Value):Reads (w.setCell p u) (w.setCell p u).heap.size size A n xs:=
 ⟨h.1, fun hn => by
  obtain ⟨ad,e,h1,h2⟩:=h.2 hn
  exact ⟨ad,e,by simpa [World.setCell] using h1,fun j u hu=>(World.cell?_of_block (Below.heap_setCell w p _ _ (by rw [block_of_add];exact hp ad e))).trans (h2 j u hu)⟩⟩
theorem reads_marked (w:World) (cs:Array Value) (e:TypeId) (p q n:Nat) (xs:List Value) (h:cs.toList=xs) (hn:xs.length=n) :
  Reads (w.alloc (.cells cs e (p,q))) (w.alloc (.cells cs e (p,q))).heap.size 1 (some ⟨w.heap.size,0,none⟩) n xs:=by
 refine ⟨by omega,fun _=>⟨_,rfl,by simp,fun j u hu=>?_⟩⟩
 have hadd:(⟨w.heap.size,0,none⟩:Addr).add j=⟨w.heap.size,j,none⟩:=by unfold Addr.add;split<;>simp_all
 rw [hadd,cell_of_row _ _ _ cs e (p,q) (heap_alloc_new w _),<-Array.getElem?_toList,h]
 exact hu
theorem colC_succ (l:List It) (k j:Nat) (it:It) (h:l[j]? = some it):colC (l.take (j+1)) k=colC (l.take j) k++[(it.1[k]?).getD nullC]:=by
 unfold colC
 rw [List.take_add_one,h]
 simp
theorem colC_ok {l:List It} (h:ItOk l) (k:Nat):ClOk (colC l k):=by
 intro c hc
 obtain ⟨it,hit,rfl⟩:=List.mem_map.1 hc
 cases hx:it.1[k]? with
 | none=>exact ⟨by decide,by decide,by decide⟩
 | some d=>exact (h it hit).1 d (List.mem_of_getElem? hx)
theorem Fits.row {cs:List Co} {b:Ba} (h:Fits cs b) {it:It} (hit:it∈b.2.2):it.1.length=cs.length:=(rowE_zero (h.items it hit).1).1
def EncR (B g:Nat) (E:Int) (bs:List UInt8) (w w':World):Prop:=
 But B g w w'/\∃ A n c,Blk w' g 35 #[.slice A n c]/\(E=0->w'.ownsRow B 5 1 (.slice A n c) n (u8s bs))
set_option maxHeartbeats 4000000 in
theorem enc1_any (base g0 g1 g2:Nat) (A:Option Addr) (n c:Nat) (cs:List Co) (v s:Int) (I:Option Addr) (m d:Nat) (l:List It) (w:World)
  (h0:w.cell? ⟨g0,0,none⟩=some (.slice A n c)) (h1:Blk w g1 30 #[.int .i64 v,.int .i64 s,.slice I m d]) (h2:Blk w g2 35 #[.slice none 0 0])
  (hg0:g0<w.heap.size) (hn0:g0≠g2) (hn1:g1≠g2) (hb2:base<=g2)
  (hr:Reads w base 7 A n (cos cs)) (hn:n<=maxLen) (hi:ItemsAt w base I m l) (hm:m<=maxLen) (hok:BaOk (v,s,l)) (hcl:ItOk l) (hT:Tab2 base w) :
  Calls Tryz.prog 39 #[.pointer (some ⟨g0,0,none⟩),.pointer (some ⟨g1,0,none⟩),.pointer (some ⟨g2,0,none⟩)] w fun e w'=>e=endN (batE cs (v,s,l))/\EncR w.heap.size g2 (batE cs (v,s,l)) (encA cs (v,s,l)) w w':=by
 have hgl1:=h1.lt
 have hgl2:=h2.lt
 have hbs:base<=w.heap.size:=by omega
 have hn63:n<=9223372036854775807:=by simp only [maxLen] at hn;omega
 have hm63:m<=9223372036854775807:=by simp only [maxLen] at hm;omega
 have Hr:=Lib.hid hr
 have Hi:=Lib.hid hi
 have Hn:=Lib.hid hn
 have Hm:=Lib.hid hm
 have HT:=Lib.hid hT
 have Hok:=Lib.hid hok
 have Hcl:=Lib.hid hcl
 have B1:=Lib.hid h1
 have B2:=Lib.hid h2
 have H0:=Lib.hid h0
 have c10:=h1.cell 0
 have c11:=h1.cell 1
 have c12:=h1.cell 2
 clear hr hn hi hm hT hok hcl h1 h2
 go_enter Tryz.func39,Tryz.ntmps39
 go_wp2_with fail
 with_reducible refine (bcheck_any A n c cs v s I m d l w (Hr.out.more hbs) Hn.out (Hi.out.more hbs) Hm.out HT.out.tabs).mono ?_
 rintro e w1 ⟨rfl,hb1⟩
 have HB:=Lib.hid (But.of_below (g:=g2) hb1 (Nat.le_refl _))
 have B2:=Lib.hid (B2.out.on hb1)
 have hz1:w.heap.size<=w1.heap.size:=hb1.size
 clear hb1 h0 c10 c11 c12
 by_cases hE:batE cs (v,s,l)=0
 ·have HF:=Lib.hid ((fits_iff cs (v,s,l)).1 hE)
  rw [hE,endN_zero]
  have HE:=Lib.hid hE
  clear hE
  have hconv:(convert 35 35 (.slice (some ⟨w1.heap.size,0,none⟩) 3 3)).run Tryz.prog (w1.alloc (.cells #[.int .u8 77,.int .u8 83,.int .u8 1] 5))=.ok (.slice (some ⟨w1.heap.size,0,none⟩) 3 3) (w1.alloc (.cells #[.int .u8 77,.int .u8 83,.int .u8 1] 5 (3,4))):=
   Lib.run_convert_bytes_const w1 _ _ _ 3 3 Tryz.underlying35 Tryz.underlying5
  have B2a:=Lib.hid (B2.out.alloc (.cells #[.int .u8 77,.int .u8 83,.int .u8 1] 5 (3,4)))
  have hcg2:=B2a.out.cell 0
  have hfg2:=B2a.out.frozen 0
  have HB:=Lib.hid ((HB.out.al (.cells #[.int .u8 77,.int .u8 83,.int .u8 1] 5 (3,4))).set 0 (.slice (some ⟨w1.heap.size,0,none⟩) 3 3))
  have B1a:=Lib.hid (HB.out.blk B1.out hgl1 hn1)
  have c10:=B1a.out.cell 0
  have c11:=B1a.out.cell 1
  have c12:=B1a.out.cell 2
  obtain ⟨V,hV,hVl⟩:∃ V:Nat,v.toNat=V/\V<=2147483647:=⟨v.toNat,rfl,by have:=HF.out.v1;simp only at this;omega⟩
  obtain ⟨S,hS,hSl⟩:∃ S:Nat,s.toNat=S/\S<=9223372036854775807:=⟨s.toNat,rfl,by have:=Hok.out.1;simp only at this;omega⟩
  have HV:=Lib.hid (wrap_nat v HF.out.v0 (by have:=HF.out.v1;simp only at this;omega))
  have HS:=Lib.hid (wrap_nat s HF.out.s0 Hok.out.1)
  have Hml:=Lib.hid (show m<=1048576 by have:=HF.out.rows;rw [show ((v,s,l):Ba).2.2=l from rfl,Hi.out.len] at this;exact this)
  rw [hV] at HV
  rw [hS] at HS
  have HVn:=Lib.hid hV
  have HSn:=Lib.hid hS
  clear hV hS
  go_wp2
  rw [HV.out,HS.out]
  have hg2l:=B2.out.lt
  have hg2w:g2≠w1.heap.size:=Nat.ne_of_lt hg2l
  have HP:=Lib.hid (Blk.new ((w1.alloc (.cells #[.int .u8 77,.int .u8 83,.int .u8 1] 5 (3,4))).setCell ⟨g2,0,none⟩ (.slice (some ⟨w1.heap.size,0,none⟩) 3 3)) 79 #[.int .u64 (V:Int),.int .u64 (S:Int),.int .u64 (m:Int)])
  have HP:=Lib.hid (show Blk (((w1.alloc (.cells #[.int .u8 77,.int .u8 83,.int .u8 1] 5 (3,4))).setCell ⟨g2,0,none⟩ (.slice (some ⟨w1.heap.size,0,none⟩) 3 3)).alloc (.cells #[.int .u64 (V:Int),.int .u64 (S:Int),.int .u64 (m:Int)] 79)) (w1.heap.size+1) 79 #[.int .u64 (V:Int),.int .u64 (S:Int),.int .u64 (m:Int)] from by
   have:=HP.out
   simpa [World.setCell] using this)
  have HB:=Lib.hid (HB.out.al (.cells #[.int .u64 (V:Int),.int .u64 (S:Int),.int .u64 (m:Int)] 79))
  have HG:=Lib.hid ((B2a.out.set_ 0 (.slice (some ⟨w1.heap.size,0,none⟩) 3 3)).alloc (.cells #[.int .u64 (V:Int),.int .u64 (S:Int),.int .u64 (m:Int)] 79))
  simp only [List.setIfInBounds_toArray,List.set_cons_zero] at HG
  have HR:=Lib.hid ((((reads_marked w1 #[.int .u8 77,.int .u8 83,.int .u8 1] 5 3 4 3 (u8s (hdB V S m 0)) rfl rfl).setCellFar (p:=⟨g2,0,none⟩) (fun ad h=>by cases h;exact hg2w.symm) (.slice (some ⟨w1.heap.size,0,none⟩) 3 3))).al (.cells #[.int .u64 (V:Int),.int .u64 (S:Int),.int .u64 (m:Int)] 79))
  clear c10 c11 c12 hcg2 hfg2 hconv B1a B2a
  generalize ((w1.alloc (.cells #[.int .u8 77,.int .u8 83,.int .u8 1] 5 (3,4))).setCell ⟨g2,0,none⟩ (.slice (some ⟨w1.heap.size,0,none⟩) 3 3)).alloc (.cells #[.int .u64 (V:Int),.int .u64 (S:Int),.int .u64 (m:Int)] 79)=W2 at *
  go_loopw [30] (fun i wr=>∃ (k:Nat) (A1:Option Addr) (n1 c1:Nat),k<=3/\i=.int .i64 (k:Int)/\Hid (Blk wr g2 35 #[.slice A1 n1 c1])/\Hid (Reads wr wr.heap.size 1 A1 n1 (u8s (hdB V S m k)))/\Hid (n1<=c1/\c1<=maxLen) /\
   Hid (0<k->wr.ownsRow w.heap.size 5 1 (.slice A1 n1 c1) n1 (u8s (hdB V S m k)))/\Hid (But w.heap.size g2 w wr)/\Hid (Blk wr (w1.heap.size+1) 79 #[.int .u64 (V:Int),.int .u64 (S:Int),.int .u64 (m:Int)])) (fun i _=>3-(intOf i).toNat)
  case atStart=>exact ⟨0,_,3,3,by omega,rfl,HG,HR,Lib.hid ⟨Nat.le_refl _,by decide⟩,Lib.hid (fun h=>absurd h (by omega)),HB,HP⟩
  case round=>
   obtain ⟨k,A1,n1,c1,hk,rfl,HG,HR,HC,HO,HL,HP⟩:=hrel
   by_cases hlt:k<3
   ·obtain ⟨N,hN,hcN,hNl⟩:∃ N:Nat,(numsH V S m)[k]? = some N/\wr.cell? ⟨w1.heap.size+1,k,none⟩=some (.int .u64 (N:Int))/\N<18446744073709551616:=by
     have hr:=HP.out.reads 3 (natV (numsH V S m)) rfl rfl
     obtain ⟨ad,u,e,hbk,hu,hcell⟩:=hr.at_ hlt
     cases e
     obtain ⟨N,h1,rfl⟩:=natV_get _ _ _ hu
     have hadd:(⟨w1.heap.size+1,0,none⟩:Addr).add k=⟨w1.heap.size+1,k,none⟩:=by unfold Addr.add;split<;>simp_all
     rw [hadd] at hcell
     refine ⟨N,h1,hcell,?_⟩
     have h2:=List.mem_of_getElem? h1
     have g5:=Hm.out
     simp only [maxLen] at g5
     simp only [numsH,List.mem_cons,List.not_mem_nil,or_false] at h2
     rcases h2 with rfl | rfl | rfl<;>omega
    have d3:decide ((k:Int)<3)=true:=by simp;omega
    have HN:=Lib.hid (hdB_succ V S m k N hN)
    have hkl:=hdB_le V S m k hk
    have hn1:n1=(hdB V S m k).length:=(reads_len HR.out).symm
    have hn1l:n1<=1099511627776:=by omega
    have hcg:=HG.out.cell 0
    have HW:=Lib.hid HL.out.size
    clear hN hkl hn1
    go_wp2_with fail
    with_reducible refine (put_any A1 n1 c1 N (hdB V S m k) wr HR.out HC.out.1 HC.out.2 hn1l hNl).mono ?_
    rintro e w3 ⟨A3,c3,rfl,q1,q2,q3,q4⟩
    have HG3:=Lib.hid (HG.out.on q4)
    have hcg3:=HG3.out.cell 0
    have hfg3:=HG3.out.frozen 0
    have HX:=Lib.hid (And.intro q1 q2)
    have HO3:=Lib.hid (own_mono q3 HW.out)
    have HB3:=Lib.hid (HL.out.on q4)
    have HP3:=Lib.hid (HP.out.on q4)
    clear q1 q2 q3 q4 hcg hcN
    rw [<-HN.out] at HO3
    have HO4:=Lib.hid (own_far HO3.out HG3.out (by decide) 0 (.slice A3 (n1+(leb N).length) c3))
    have HG4:=Lib.hid (HG3.out.set_ 0 (.slice A3 (n1+(leb N).length) c3))
    simp only [List.setIfInBounds_toArray,List.set_cons_zero] at HG4
    have HB4:=Lib.hid (HB3.out.set 0 (.slice A3 (n1+(leb N).length) c3))
    have HP4:=Lib.hid (HP3.out.far (p:=⟨g2,0,none⟩) (fun h=>by have h2:w1.heap.size+1=g2:=h;omega) (.slice A3 (n1+(leb N).length) c3))
    clear HO3 HB3 HP3
    generalize n1+(leb N).length=n3 at *
    go_wp2
    go_roundw
    case rel=>exact ⟨k+1,A3,n3,c3,by omega,by go_num,HG4,Lib.hid (own_reads HO4.out),HX,Lib.hid (fun _=>HO4.out),HB4,HP4⟩
    case measure=>simp [intOf];omega
   obtain rfl:k=3:=by omega
   rw [show ((3:Nat):Int)=3 from rfl]
   replace HO:=Lib.hid (HO.out (by omega))
   rw [<-HVn.out,<-HSn.out,hdB_three,<-Hi.out.len,<-preB_zero cs (v,s,l)] at HO
   have HB5:=HL
   have hcg0:=(HL.out.blk0 H0.out hg0 hn0)
   clear HR HP HC
   obtain ⟨j0,hj0,hk0,hj1,hk2⟩:=info_parts cell_info
   go_wp2
   go_loopw [40] (fun i wr=>∃ (k:Nat) (A1:Option Addr) (n1 c1:Nat),k<=n/\i=.int .i64 (k:Int)/\Hid (Blk wr g2 35 #[.slice A1 n1 c1])/\Hid (wr.ownsRow w.heap.size 5 1 (.slice A1 n1 c1) n1 (u8s (preB cs (v,s,l) k)))/\Hid (But w.heap.size g2 w wr)) (fun i _=>n-(intOf i).toNat)
   case atStart=>exact ⟨0,A1,n1,c1,Nat.zero_le _,rfl,HG,HO,HB5⟩
   case round=>
    obtain ⟨k,A1,n1,c1,hk,rfl,HG,HO,HL⟩:=hrel
    have Hbel:=Lib.hid (HL.out.below hbs hb2)
    by_cases hlt:k<n
    ·obtain ⟨ad,co,rfl,hbk,hco,hat⟩:=cos_at (Hr.out.below Hbel.out) hlt
     obtain ⟨ci,cnm,ck,cnl,cu,cx,csx⟩:=co
     have h0:=hat.c0
     have h1:=hat.c1
     have h2:=hat.c2
     have h3:=hat.c3
     have h4:=hat.c4
     have h5:=hat.c5
     have h6:=hat.c6
     simp only at h0 h1 h2 h3 h4 h5 h6
     have Hco:=Lib.hid hco
     have hki:(k:Int)<(n:Int):=by omega
     have Hlt:=Lib.hid hlt
     have dk:decide ((k:Int)<(n:Int))=true:=by simp;omega
     have HQ:=Lib.hid (Blk.new wr 45 #[.int .i64 ci,.string cnm,.int .i64 ck,.bool cnl,.bool cu,.int .i64 cx,.string csx])
     have HL3:=Lib.hid (HL.out.al (.cells #[.int .i64 ci,.string cnm,.int .i64 ck,.bool cnl,.bool cu,.int .i64 cx,.string csx] 45))
     have c12:=(HL3.out.blk B1.out hgl1 hn1).cell 2
     have HG3:=Lib.hid (HG.out.alloc (.cells #[.int .i64 ci,.string cnm,.int .i64 ck,.bool cnl,.bool cu,.int .i64 cx,.string csx] 45))
     have HO3:=Lib.hid (HO.out.alloc (.cells #[.int .i64 ci,.string cnm,.int .i64 ck,.bool cnl,.bool cu,.int .i64 cx,.string csx] 45))
     have hq:=HQ.out.lt
     clear hco hat
     go_wp2
     clear h0 h1 h2 h3 h4 h5 h6 hbk c12
     generalize hW3:wr.alloc (.cells #[.int .i64 ci,.string cnm,.int .i64 ck,.bool cnl,.bool cu,.int .i64 cx,.string csx] 45)=W3 at *
     clear hW3
     go_loopw [7,48] (fun u i WX=>∃ (j:Nat) (A9:Option Addr) (c9:Nat),j<=m/\u=.slice A9 j c9/\i=.int .i64 (j:Int)/\Hid (WX.ownsRow W3.heap.size 23 3 (.slice A9 j c9) j (cls (colC (l.take j) k)))/\Hid (Below W3.heap.size W3 WX)) (fun _ i _=>m-(intOf i).toNat)
     case atStart=>exact ⟨0,none,0,Nat.zero_le _,rfl,rfl,Lib.hid (by simpa [colC,cls] using World.ownsRow_nil _ _ _ _),Lib.hid (Below.refl _ _)⟩
     case round=>
      obtain ⟨j,A9,c9,hj,rfl,rfl,HX,HY⟩:=hrel
      by_cases hlj:j<m
      ·have Hb4:=Lib.hid ((HL3.out.on HY.out).below hbs hb2)
       obtain ⟨ad2,A',c',it,rfl,hbk,hit,h0,h1,hrow,hc1,hc2⟩:=(Hi.out.below Hb4.out).at_ hlj
       have hlen:=HF.out.row (List.mem_of_getElem? hit)
       rw [cos_len Hr.out] at hlen
       rw [hlen] at h0 hrow hc1
       have hstep:=colC_succ l k j it hit
       have hbase4:base<=wr.heap.size:=Nat.le_trans hbs (HL3.out.on HY.out).size
       have hrow2:=((hrow.more hbase4).al (.cells #[.slice A' n c',.int .i64 it.2] 26))
       obtain ⟨ad3,u,x,sx,rfl,hbk3,hx,g0',g1',g2'⟩:=cls_at hrow2 hlt
       rw [hx,Option.getD_some] at hstep
       have Hstep:=Lib.hid hstep
       have hji:(j:Int)<(m:Int):=by omega
       have hmr:=Hml.out
       have hs1:j+1<=maxLen:=by simp only [maxLen];omega
       have hs2:(j+1)*32<=70368744177664:=by omega
       generalize it.2=wt at *
       clear hstep hrow hrow2 hx hit hlen hc1 hc2 hbk3
       go_wp2_with (at_builtin
                    refine wpList_append_any _ rfl (.tmp 52) (.tmp 58) 24 rfl W3.heap.size 23 j0 (.agg #[.bool false,.int .i64 0,.string ⟨#[]⟩]) 3 32 Tryz.underlying24 hj0 hk0 hj1 hk2 rfl (by decide) A9 j c9 _ rfl (own_below HX.out (((Below.refl _ wr).alloc (Nat.le_refl _) (.cells #[.slice (some ad3) n c',.int .i64 wt] 26)).alloc (by simp) (.cells #[.bool u,.int .i64 x,.string sx] 23))) (some ⟨_,0,none⟩) 1 1 (cls [(u,x,sx)]) rfl (by exact reads_cellb _ _ (by simp) _ _ _) (cls_one _) hs1 hs2 (Nat.le_trans HY.out.size (by simp;omega)) ?_
                    intro A8 c8 w8 r1 r2 r3 r4 r5
                    rw [<-cls_append,<-Hstep.out] at r1
                    have R1:=Lib.hid r1
                    have R2:=Lib.hid r2
                    clear r1 r2 r3 r4 r5)
       have HY8:=Lib.hid (((HY.out.alloc HY.out.size (.cells #[.slice (some ad3) n c',.int .i64 wt] 26)).alloc (Nat.le_trans HY.out.size (by simp)) (.cells #[.bool u,.int .i64 x,.string sx] 23)).trans R2.out)
       go_roundw
       case rel=>exact ⟨j+1,A8,c8,by omega,rfl,by go_num,R1,HY8⟩
       case measure=>simp [intOf];omega
      obtain rfl:m=j:=by omega
      have hmr:=Hml.out
      replace HX:=Lib.hid (show wr.ownsRow W3.heap.size 23 3 (.slice A9 m c9) m (cls (colC l k)) by have:=HX.out;rwa [List.take_of_length_le (by rw [Hi.out.len];exact Nat.le_refl _)] at this)
      have HL4:=Lib.hid (HL3.out.on HY.out)
      have HG4:=Lib.hid (HG3.out.on HY.out)
      have HQ4:=Lib.hid (HQ.out.on HY.out)
      have HO4:=Lib.hid (own_below HO3.out HY.out)
      have HE0:=Lib.hid (putE_ok (mayCs_at HF.out.may Hco.out) (HF.out.col Hco.out))
      have HPB:=Lib.hid (preB_succ cs (v,s,l) k _ Hco.out)
      have hle:=HF.out.preB_le k (by rw [cos_len Hr.out];exact hk)
      have hn1:n1=(preB cs (v,s,l) k).length:=(reads_len (own_reads HO4.out)).symm
      have hn1l:n1<=274877906944:=by omega
      have Hw4:=Lib.hid (HL4.out.below hbs hb2)
      have hcg:=HG4.out.cell 0
      have hq2:=HQ4.out.cell 2
      have hq3:=HQ4.out.cell 3
      have hw4:=HL4.out.size
      clear hle hn1
      simp only at HE0 HPB
      rw [<-putO_ok (preB cs (v,s,l) k) HE0.out] at HPB
      go_wp2_with fail
      with_reducible refine (cput_any A1 n1 c1 (preB cs (v,s,l) k) ck cnl A9 m c9 (colC l k) wr (own_reads HO4.out) hn1l (own_reads HX.out) (by omega) (colC_ok Hcl.out k) (HT.out.keep Hw4.out).tabs).mono ?_
      rw [HE0.out,<-HPB.out]
      rintro e w5 ⟨A5,n5,c5,rfl,q1,q2,q3,q4⟩
      have HG5:=Lib.hid (HG4.out.on q4)
      have hcg5:=HG5.out.cell 0
      have hfg5:=HG5.out.frozen 0
      have HO5:=Lib.hid (own_far (own_mono q3 hw4) HG5.out (by decide) 0 (.slice A5 n5 c5))
      have HG6:=Lib.hid (HG5.out.set_ 0 (.slice A5 n5 c5))
      simp only [List.setIfInBounds_toArray,List.set_cons_zero] at HG6
      have HL6:=Lib.hid ((HL4.out.on q4).set 0 (.slice A5 n5 c5))
      clear q1 q2 q3 q4 hcg hq2 hq3
      go_wp2_with fail
      with_reducible refine (must_yes _).mono ?_
      rintro e w6 ⟨rfl,rfl⟩
      go_wp2
      go_roundw
      case rel=>exact ⟨k+1,A5,n5,c5,Hlt.out,by go_num,HG6,HO5,HL6⟩
      case measure=>have:=Hlt.out;simp [intOf];omega
    obtain rfl:n=k:=by omega
    have c12:=(HL.out.blk B1.out hgl1 hn1).cell 2
    rw [<-cos_len Hr.out,<-preW_zero] at HO
    go_wp2
    clear c12
    go_loopw [75] (fun i WX=>∃ (j:Nat) (A1:Option Addr) (n1 c1:Nat),j<=m/\i=.int .i64 (j:Int)/\Hid (Blk WX g2 35 #[.slice A1 n1 c1])/\Hid (WX.ownsRow w.heap.size 5 1 (.slice A1 n1 c1) n1 (u8s (preW cs (v,s,l) j)))/\Hid (But w.heap.size g2 w WX)) (fun i _=>m-(intOf i).toNat)
    case atStart=>exact ⟨0,A1,n1,c1,Nat.zero_le _,rfl,HG,HO,HL⟩
    case round=>
     obtain ⟨j,A1,n1,c1,hj,rfl,HG,HO,HL⟩:=hrel
     by_cases hlj:j<m
     ·have Hb4:=Lib.hid (HL.out.below hbs hb2)
      obtain ⟨ad2,A',c',it,rfl,hbk,hit,h0,h1,-,-,-⟩:=(Hi.out.below Hb4.out).at_ hlj
      have HPW:=Lib.hid (preW_succ cs (v,s,l) j it hit)
      have hle:=HF.out.preW_le j
      have hn1:n1=(preW cs (v,s,l) j).length:=(reads_len (own_reads HO.out)).symm
      have hn1l:n1<=1099511627776:=by omega
      have hwo:=(Hcl.out it (List.mem_of_getElem? hit)).2
      have hji:(j:Int)<(m:Int):=by omega
      have Hlj:=Lib.hid hlj
      have HG3:=Lib.hid (HG.out.alloc (.cells #[.slice A' it.1.length c',.int .i64 it.2] 26))
      have HO3:=Lib.hid (HO.out.alloc (.cells #[.slice A' it.1.length c',.int .i64 it.2] 26))
      have HL3:=Lib.hid (HL.out.al (.cells #[.slice A' it.1.length c',.int .i64 it.2] 26))
      generalize it.2=wt at *
      generalize it.1.length=rl at *
      have hcg:=HG3.out.cell 0
      have hw4:=HL3.out.size
      have hcap:=own_caps HO3.out
      clear hle hn1 hit
      go_wp2_with fail
      with_reducible refine (putInt_any A1 n1 c1 wt (preW cs (v,s,l) j) _ (own_reads HO3.out) hcap.1 hcap.2 hn1l hwo.1 hwo.2).mono ?_
      rintro e w5 ⟨A5,c5,rfl,q1,q2,q3,q4⟩
      have HG5:=Lib.hid (HG3.out.on q4)
      have hcg5:=HG5.out.cell 0
      have hfg5:=HG5.out.frozen 0
      rw [<-HPW.out] at q3
      have HO5:=Lib.hid (own_far (own_mono q3 hw4) HG5.out (by decide) 0 (.slice A5 (n1+(leb (zig wt)).length) c5))
      have HG6:=Lib.hid (HG5.out.set_ 0 (.slice A5 (n1+(leb (zig wt)).length) c5))
      simp only [List.setIfInBounds_toArray,List.set_cons_zero] at HG6
      have HL6:=Lib.hid ((HL3.out.on q4).set 0 (.slice A5 (n1+(leb (zig wt)).length) c5))
      generalize n1+(leb (zig wt)).length=n5 at *
      clear q1 q2 q3 q4 hcg h0 h1 hbk hcap hwo
      go_wp2
      go_roundw
      case rel=>exact ⟨j+1,A5,n5,c5,Hlj.out,by go_num,HG6,HO5,HL6⟩
      case measure=>have:=Hlj.out;simp [intOf];omega
     obtain rfl:m=j:=by omega
     have HO:=Lib.hid (show wr.ownsRow w.heap.size 5 1 (.slice A1 n1 c1) n1 (u8s (bodyB cs (v,s,l))) by have:=HO.out;rwa [show preW cs (v,s,l) m=bodyB cs (v,s,l) by rw [<-preW_end,<-Hi.out.len]] at this)
     have hT:=(HT.out.keep (HL.out.below hbs hb2)).ctab
     have HcT:=Lib.hid (show CTab wr.drew from hT)
     have Hbl:=Lib.hid (show (bodyB cs (v,s,l)).length=n1 from reads_len (own_reads HO.out))
     have hble:=HF.out.body_le
     have hcap:=own_caps HO.out
     have hn1m:n1<=maxLen:=Nat.le_trans hcap.1 hcap.2
     obtain ⟨i0,hi0,hz0,hz1,hz2⟩:=info_parts u8_info
     have hs1:n1+4<=maxLen:=by rw [Hbl.out] at hble;simp only [maxLen];omega
     have hs2:(n1+4)*1<=70368744177664:=by rw [Hbl.out] at hble;omega
     have HGd:=Lib.hid HG.out.drew
     have HOd:=Lib.hid (own_below HO.out (Below.refl _ _).drew)
     have HLd:=Lib.hid HL.out.drew
     clear hT hble hcap
     go_wp2
     have hS:But w.heap.size g2 w wr.drew:=HLd.out
     refine nR (fun w'=>But w.heap.size g2 w w') (.fork 0 1 (.eff 1 (.eff 2 (.eff 3 (.eff 4 .done)))) (.fork 0 2 (.eff 2 (.eff 3 (.eff 4 .done))) (.eff 0 (.eff 3 (.eff 4 .done))))) ?_
     refine plan_fork ?_ ?_
     ·have hcg:=HGd.out.cell 0
      refine nE fun K hK=>?_
      go_simp
      refine held_go hK hS fun hS=>?_
      clear hK K
      try simp only [zp]
      clear hcg
      have hcg:=HGd.out.cell 0
      refine nE fun K hK=>?_
      go_simp
      refine held_go hK hS fun hS=>?_
      clear hK K
      try simp only [zp]
      clear hcg
      refine nE fun K hK=>?_
      go_simp
      with_reducible refine (bsum_any A1 n1 c1 (bodyB cs (v,s,l)) _ (own_reads HOd.out) hn1m HcT.out).mono ?_
      rintro e w5 ⟨gg,rfl,hgg,q3,q4⟩
      have HG5:=Lib.hid (HGd.out.on q4)
      have HO5:=Lib.hid (own_below HOd.out q4)
      have HL5:=Lib.hid (HLd.out.on q4)
      have HS5:=Lib.hid (own_reads q3)
      clear q3 q4 hgg
      refine held_go hK (by exact HL5.out) fun hS=>?_
      clear hK K
      try simp only [zp]
      refine nE fun K hK=>?_
      refine wp_append_any _ (.tmp 84) (.tmp 86) 35 rfl w.heap.size 5 i0 (.int .u8 0) 1 1 Tryz.underlying35 hi0 hz0 hz1 hz2 rfl (by decide) A1 n1 c1 _ rfl HO5.out (some ⟨_,0,none⟩) 4 4 (u8s (sumB (crcS (bodyB cs (v,s,l))))) rfl HS5.out (u8s_one _) hs1 hs2 HL5.out.size ?_
      intro A8 c8 w8 r1 r2 r3 r4 r5
      rw [<-u8s_append] at r1
      have HG8:=Lib.hid (HG5.out.apart HO5.out (by decide) r3)
      have HL8:=Lib.hid (HL5.out.trans (But.of_below r2 (Nat.le_refl _)))
      have HO8:=Lib.hid (show w8.ownsRow w.heap.size 5 1 (.slice A8 (n1+4) c8) (n1+4) (u8s (encA cs (v,s,l))) from r1)
      clear r1 r2 r3 r4 r5
      refine held_go hK (by exact HL8.out) fun hS=>?_
      clear hK K
      try simp only [zp]
      have hcg:=HG8.out.cell 0
      have hfg:=HG8.out.frozen 0
      refine nE fun K hK=>?_
      go_simp
      clear hcg hfg
      have HL9:=Lib.hid (HL8.out.set 0 (.slice A8 (n1+4) c8))
      have HO9:=Lib.hid (own_far HO8.out HG8.out (by decide) 0 (.slice A8 (n1+4) c8))
      have HG9:=Lib.hid (HG8.out.set_ 0 (.slice A8 (n1+4) c8))
      simp only [List.setIfInBounds_toArray,List.set_cons_zero] at HG9
      refine held_go hK (by exact HL9.out) fun hS=>?_
      clear hK K
      try simp only [zp]
      refine plan_end ?_
      go_wp2
      go_end0
      exact ⟨by rw [HE.out];rfl,HL9.out,A8,n1+4,c8,HG9.out,fun _=>HO9.out⟩
     have hcg:=HGd.out.cell 0
     refine nE fun K hK=>?_
     go_simp
     refine held_go hK hS fun hS=>?_
     clear hK K
     try simp only [zp]
     clear hcg
     refine plan_fork ?_ ?_
     ·have hcg:=HGd.out.cell 0
      refine nE fun K hK=>?_
      go_simp
      refine held_go hK hS fun hS=>?_
      clear hK K
      try simp only [zp]
      clear hcg
      refine nE fun K hK=>?_
      go_simp
      with_reducible refine (bsum_any A1 n1 c1 (bodyB cs (v,s,l)) _ (own_reads HOd.out) hn1m HcT.out).mono ?_
      rintro e w5 ⟨gg,rfl,hgg,q3,q4⟩
      have HG5:=Lib.hid (HGd.out.on q4)
      have HO5:=Lib.hid (own_below HOd.out q4)
      have HL5:=Lib.hid (HLd.out.on q4)
      have HS5:=Lib.hid (own_reads q3)
      clear q3 q4 hgg
      refine held_go hK (by exact HL5.out) fun hS=>?_
      clear hK K
      try simp only [zp]
      refine nE fun K hK=>?_
      refine wp_append_any _ (.tmp 84) (.tmp 86) 35 rfl w.heap.size 5 i0 (.int .u8 0) 1 1 Tryz.underlying35 hi0 hz0 hz1 hz2 rfl (by decide) A1 n1 c1 _ rfl HO5.out (some ⟨_,0,none⟩) 4 4 (u8s (sumB (crcS (bodyB cs (v,s,l))))) rfl HS5.out (u8s_one _) hs1 hs2 HL5.out.size ?_
      intro A8 c8 w8 r1 r2 r3 r4 r5
      rw [<-u8s_append] at r1
      have HG8:=Lib.hid (HG5.out.apart HO5.out (by decide) r3)
      have HL8:=Lib.hid (HL5.out.trans (But.of_below r2 (Nat.le_refl _)))
      have HO8:=Lib.hid (show w8.ownsRow w.heap.size 5 1 (.slice A8 (n1+4) c8) (n1+4) (u8s (encA cs (v,s,l))) from r1)
      clear r1 r2 r3 r4 r5
      refine held_go hK (by exact HL8.out) fun hS=>?_
      clear hK K
      try simp only [zp]
      have hcg:=HG8.out.cell 0
      have hfg:=HG8.out.frozen 0
      refine nE fun K hK=>?_
      go_simp
      clear hcg hfg
      have HL9:=Lib.hid (HL8.out.set 0 (.slice A8 (n1+4) c8))
      have HO9:=Lib.hid (own_far HO8.out HG8.out (by decide) 0 (.slice A8 (n1+4) c8))
      have HG9:=Lib.hid (HG8.out.set_ 0 (.slice A8 (n1+4) c8))
      simp only [List.setIfInBounds_toArray,List.set_cons_zero] at HG9
      refine held_go hK (by exact HL9.out) fun hS=>?_
      clear hK K
      try simp only [zp]
      refine plan_end ?_
      go_wp2
      go_end0
      exact ⟨by rw [HE.out];rfl,HL9.out,A8,n1+4,c8,HG9.out,fun _=>HO9.out⟩
     refine nE fun K hK=>?_
     go_simp
     with_reducible refine (bsum_any A1 n1 c1 (bodyB cs (v,s,l)) _ (own_reads HOd.out) hn1m HcT.out).mono ?_
     rintro e w5 ⟨gg,rfl,hgg,q3,q4⟩
     have HG5:=Lib.hid (HGd.out.on q4)
     have HO5:=Lib.hid (own_below HOd.out q4)
     have HL5:=Lib.hid (HLd.out.on q4)
     have HS5:=Lib.hid (own_reads q3)
     clear q3 q4 hgg
     refine held_go hK (by exact HL5.out) fun hS=>?_
     clear hK K
     try simp only [zp]
     have hcg:=HG5.out.cell 0
     refine nE fun K hK=>?_
     go_simp
     refine held_go hK (by exact HL5.out) fun hS=>?_
     clear hK K
     try simp only [zp]
     clear hcg
     refine nE fun K hK=>?_
     refine wp_append_any _ (.tmp 84) (.tmp 86) 35 rfl w.heap.size 5 i0 (.int .u8 0) 1 1 Tryz.underlying35 hi0 hz0 hz1 hz2 rfl (by decide) A1 n1 c1 _ rfl HO5.out (some ⟨_,0,none⟩) 4 4 (u8s (sumB (crcS (bodyB cs (v,s,l))))) rfl HS5.out (u8s_one _) hs1 hs2 HL5.out.size ?_
     intro A8 c8 w8 r1 r2 r3 r4 r5
     rw [<-u8s_append] at r1
     have HG8:=Lib.hid (HG5.out.apart HO5.out (by decide) r3)
     have HL8:=Lib.hid (HL5.out.trans (But.of_below r2 (Nat.le_refl _)))
     have HO8:=Lib.hid (show w8.ownsRow w.heap.size 5 1 (.slice A8 (n1+4) c8) (n1+4) (u8s (encA cs (v,s,l))) from r1)
     clear r1 r2 r3 r4 r5
     refine held_go hK (by exact HL8.out) fun hS=>?_
     clear hK K
     try simp only [zp]
     have hcg:=HG8.out.cell 0
     have hfg:=HG8.out.frozen 0
     refine nE fun K hK=>?_
     go_simp
     clear hcg hfg
     have HL9:=Lib.hid (HL8.out.set 0 (.slice A8 (n1+4) c8))
     have HO9:=Lib.hid (own_far HO8.out HG8.out (by decide) 0 (.slice A8 (n1+4) c8))
     have HG9:=Lib.hid (HG8.out.set_ 0 (.slice A8 (n1+4) c8))
     simp only [List.setIfInBounds_toArray,List.set_cons_zero] at HG9
     refine held_go hK (by exact HL9.out) fun hS=>?_
     clear hK K
     try simp only [zp]
     refine plan_end ?_
     go_wp2
     go_end0
     exact ⟨by rw [HE.out];rfl,HL9.out,A8,n1+4,c8,HG9.out,fun _=>HO9.out⟩
 have HE:=Lib.hid hE
 rw [endN_not hE]
 clear hE
 go_wp2
 exact ⟨rfl,(endN_not HE.out).symm,HB.out,_,_,_,B2.out,fun h=>absurd h HE.out⟩
end Go.Proofs.YtjpjalmilfgckaaGreatDoor
namespace Go.Proofs.YtjpjalmilfgckaaGreatDoor
open Go.RowKit
theorem number_lit (base g:Nat) (B:Option Addr) (m c:Nat) (xs:List UInt8) (most beyond:Nat) (mi bi:Int) (h1:mi=(most:Int)) (h2:bi=(beyond:Int)) (w:World) (hG:Blk w g 129 #[.slice B m c]) (hr:Reads w base 1 B m (u8s xs)) (hb:base<=w.heap.size) (hm:m<=c) (hc:c<=maxLen) (hbe:beyond≠0) :
  Calls Tryz.prog 154 #[.pointer (some ⟨g,0,none⟩),.int .u64 mi,.int .i64 bi] w (NumR (numD most beyond xs) base g w):=by
 subst h1 h2
 exact number_any base g B m c xs most beyond w hG hr hb hm hc hbe
def HeadR (r:Got (Nat×Nat×Nat×List UInt8)) (base g:Nat) (w:World) (e:Ending) (w':World):Prop:=
 But w.heap.size g w w'/\match r with
 | .ok h=>e=.returned (.tuple #[.agg #[.int .i64 (h.1:Int),.int .i64 (h.2.1:Int),.slice none 0 0],.int .i64 (h.2.2.1:Int)])/\∃ B m c,Blk w' g 129 #[.slice B m c]/\Reads w' base 1 B m (u8s h.2.2.2)/\m<=c/\c<=maxLen
 | .error er=>e=thr (er:Int)/\er≠0
theorem batD_none {xs:List UInt8} (h:xs.length<4):batD xs=.error 3:=by unfold batD;rw [if_pos h]
theorem batD_sum {xs:List UInt8} (h:¬xs.length<4) (h2:(sumB (crcS (xs.take (xs.length-4)))==xs.drop (xs.length-4))=false):batD xs=.error 170:=by
 unfold batD
 rw [if_neg h,if_neg (by simpa using h2)]
theorem batD_magic {xs:List UInt8} (h:¬xs.length<4) (h2:(sumB (crcS (xs.take (xs.length-4)))==xs.drop (xs.length-4))=true) (h3:((xs.take (xs.length-4)).take 3==[77,83,1])=false):batD xs=.error 171:=by
 unfold batD
 rw [if_neg h,if_pos (by simpa using h2),if_neg (by simpa using h3)]
theorem batD_on {xs:List UInt8} (h:¬xs.length<4) (h2:(sumB (crcS (xs.take (xs.length-4)))==xs.drop (xs.length-4))=true) (h3:((xs.take (xs.length-4)).take 3==[77,83,1])=true):batD xs=batR ((xs.take (xs.length-4)).drop 3):=by
 unfold batD
 rw [if_neg h,if_pos (by simpa using h2),if_pos (by simpa using h3)]
theorem numD_le {most beyond:Nat} {xs:List UInt8} {p:Nat×List UInt8} (h:numD most beyond xs=.ok p):p.1<=most:=(numD_only h).1
theorem wrap_i64 (n:Nat) (h:n<=9223372036854775807):IntKind.i64.wrap (n:Int)=(n:Int):=by
 simp [IntKind.wrap,IntKind.signed,IntKind.bits]
 omega
set_option maxHeartbeats 2000000 in
theorem head_any (base g:Nat) (B:Option Addr) (m c:Nat) (xs:List UInt8) (w:World) (hG:Blk w g 129 #[.slice B m c]) (hr:Reads w base 1 B m (u8s xs)) (hb:base<=g) (hm:m<=c) (hc:c<=maxLen) (hT:Tab2 base w) :
  Calls Tryz.prog 97 #[.pointer (some ⟨g,0,none⟩)] w (HeadR (batD xs) base g w):=by
 have hgl:=hG.lt
 have hbw:base<=w.heap.size:=by omega
 have hxl:=reads_len hr
 have Hxl:=Lib.hid hxl
 have hc63:c<=9223372036854775807:=by simp only [maxLen] at hc;omega
 have Hr:=Lib.hid hr
 have HT:=Lib.hid hT
 have Hc:=Lib.hid hc
 have HB:=Lib.hid ((Below.refl _ w).alloc (Nat.le_refl _) (.cells #[.int .i64 0,.int .i64 0,.slice none 0 0] 30))
 have HG:=Lib.hid (hG.alloc (.cells #[.int .i64 0,.int .i64 0,.slice none 0 0] 30))
 have HP:=Lib.hid (Blk.new w 30 #[.int .i64 0,.int .i64 0,.slice none 0 0])
 have hcg:=HG.out.cell 0
 clear hG hr hT hxl hc
 go_enter Tryz.func97,Tryz.ntmps97
 by_cases h4:m<4
 ·have d1:decide ((4:Int)<=(m:Int))=false:=by simp;omega
  have d2:decide (4<=m)=false:=by simp;omega
  have HE:=Lib.hid (batD_none (by rw [Hxl.out];exact h4))
  go_wp2_with fail
  with_reducible refine (need_no 3 _).mono ?_
  rintro e w1 ⟨rfl,rfl⟩
  go_wp2
  refine ⟨rfl,But.of_below HB.out (Nat.le_refl _),?_⟩
  rw [HE.out]
  exact ⟨rfl,by decide⟩
 have d1:decide ((4:Int)<=(m:Int))=true:=by simp;omega
 have d2:decide (4<=m)=true:=by simp;omega
 have H4:=Lib.hid (show ¬xs.length<4 by rw [Hxl.out];exact h4)
 obtain ⟨k,hk⟩:∃ k,k=m-4:=⟨_,rfl⟩
 have hsub:(m:Int)-4=(k:Int):=by omega
 have Hk:=Lib.hid hk
 have hkm:k<=m:=by omega
 have hki:(k:Int)<=(m:Int):=by omega
 have hki2:(k:Int)<=(c:Int):=by omega
 have hkc:k<=c:=by omega
 have htk:=Hr.out.head hkm
 rw [Nat.mul_one,u8s_take] at htk
 have hdr:=Hr.out.cut hkm hm
 rw [Nat.mul_one,u8s_drop] at hdr
 obtain ⟨A2,hA2⟩:∃ A2,(if c=k then B else Option.map (fun x=>x.add k) B)=A2:=⟨_,rfl⟩
 rw [hA2] at hdr
 have hmk:m-k=4:=by omega
 rw [hmk] at hdr
 have Htk:=Lib.hid htk
 have Hdr:=Lib.hid hdr
 clear hk htk hdr
 go_wp2_with fail
 with_reducible refine (need_yes 3 _).mono ?_
 rintro e w1 ⟨rfl,rfl⟩
 go_wp2
 obtain ⟨W1,hW1⟩:∃ W1,w.alloc (.cells #[.int .i64 0,.int .i64 0,.slice none 0 0] 30)=W1:=⟨_,rfl⟩
 rw [hW1] at HB HG HP hcg ⊢
 have hW1s:W1.heap.size=w.heap.size+1:=by rw [<-hW1];simp
 clear hW1
 have HKg:=Lib.hid (show ∀ w',Below W1.heap.size W1 w'->w'.cell? ⟨g,0,none⟩=some (.slice B m c) from fun w' h=>(HG.out.on h).cell 0)
 have Htk:=Lib.hid (Htk.out.below (HB.out.mono hbw))
 have Hdr:=Lib.hid (Hdr.out.below (HB.out.mono hbw))
 have HT:=Lib.hid (HT.out.keep (HB.out.mono hbw))
 have hbW:base<=W1.heap.size:=by omega
 have Hwc:=Lib.hid (show k<=maxLen from Nat.le_trans hkc Hc.out)
 clear hcg
 have hS:Below W1.heap.size W1 W1.drew:=(Below.refl _ _).drew
 refine hR (fun w'=>Below W1.heap.size W1 w') [ff 0,ff 1,ff 2,ff 3,ff 4,ff 5,ff 7,ff 8,ff 9,ff 10,ff 11,ff 12,tt 6,tt 13,tt 14] ?_
 iterate 3
  refine hP hS ?_
 refine hP1 hS HKg.out ?_
 refine hP hS ?_
 refine hP hS ?_
 iterate 3
  refine hP hS ?_
 refine hP1 hS HKg.out ?_
 refine hP hS ?_
 refine hP hS ?_
 refine hE fun K hK=>?_
 go_simp
 with_reducible refine (bsum_any B k c (xs.take k) _ ((Htk.out.more hbW).on hS) Hwc.out (HT.out.keep (hS.mono hbW)).ctab).mono ?_
 rintro e w2 ⟨gg,rfl,-,q3,q4⟩
 have HS2:=Lib.hid (own_reads q3)
 have HB2:=Lib.hid (bon hS q4)
 clear q3 q4
 refine held_go hK (by exact HB2.out) fun hS=>?_
 clear hK K
 try simp only [zp]
 refine hE fun K hK=>?_
 go_simp
 with_reducible refine (beq_any (some ⟨gg,0,none⟩) A2 4 4 4 (c-k) (sumB (crcS (xs.take k))) (xs.drop k) _ HS2.out ((Hdr.out.more hbW).on HB2.out)).mono ?_
 rintro e w3 ⟨rfl,rfl⟩
 cases hsum:(sumB (crcS (xs.take k))==xs.drop k) with
 | false=>
  have HE:=Lib.hid (batD_sum H4.out (by rw [Hxl.out,<-Hk.out];exact hsum))
  clear hsum
  refine held_go hK (by exact HB2.out) fun hS=>?_
  clear hK K
  try simp only [zp]
  refine hE fun K hK=>?_
  go_simp
  with_reducible refine (need_no 170 _).mono ?_
  rintro e w4 ⟨rfl,rfl⟩
  refine ⟨rfl,But.of_below (HB.out.trans (HB2.out.mono HB.out.size)) (Nat.le_refl _),?_⟩
  rw [HE.out]
  exact ⟨rfl,by decide⟩
 | true=>
  have HE:=Lib.hid (show (sumB (crcS (xs.take (xs.length-4)))==xs.drop (xs.length-4))=true by rw [Hxl.out,<-Hk.out];exact hsum)
  clear hsum
  refine held_go hK (by exact HB2.out) fun hS=>?_
  clear hK K
  try simp only [zp]
  refine hE fun K hK=>?_
  go_simp
  with_reducible refine (need_yes 170 _).mono ?_
  rintro e w4 ⟨rfl,rfl⟩
  refine held_go hK (by exact HB2.out) fun hS=>?_
  clear hK K
  try simp only [zp]
  refine held_end ?_
  have HG2:=Lib.hid (HG.out.on HB2.out)
  have HP2:=Lib.hid (HP.out.on HB2.out)
  have HB3:=Lib.hid (HB.out.trans (HB2.out.mono HB.out.size))
  have hz2:=HB2.out.size
  have Htk2:=Lib.hid (Htk.out.below (HB2.out.mono hbW))
  have HT2:=Lib.hid (HT.out.keep (HB2.out.mono hbW))
  clear hS HKg HB2 HS2 HG HP HB Htk HT Hdr
  have hcg:=HG2.out.cell 0
  have hconv:(convert 35 35 (.slice (some ⟨w2.heap.size,0,none⟩) 3 3)).run Tryz.prog (w2.alloc (.cells #[.int .u8 77,.int .u8 83,.int .u8 1] 5))=.ok (.slice (some ⟨w2.heap.size,0,none⟩) 3 3) (w2.alloc (.cells #[.int .u8 77,.int .u8 83,.int .u8 1] 5 (3,4))):=
   Lib.run_convert_bytes_const w2 _ _ _ 3 3 Tryz.underlying35 Tryz.underlying5
  have HL:=Lib.hid (reads_marked w2 #[.int .u8 77,.int .u8 83,.int .u8 1] 5 3 4 3 (u8s [77,83,1]) rfl rfl)
  have HB4:=Lib.hid ((Below.refl _ w2).alloc (Nat.le_refl _) (.cells #[.int .u8 77,.int .u8 83,.int .u8 1] 5 (3,4)))
  go_wp2_with fail
  with_reducible refine (bcut_any base B (some ⟨w2.heap.size,0,none⟩) k c 3 3 (xs.take k) [77,83,1] _ (Htk2.out.below (HB4.out.mono (by omega))) (by simp;omega) HL.out hkc Hc.out).mono ?_
  rintro e w5 ⟨rfl,hm5⟩
  clear hconv hcg
  generalize hw5:w2.alloc (.cells #[.int .u8 77,.int .u8 83,.int .u8 1] 5 (3,4))=w5 at *
  clear hw5
  have HG3:=Lib.hid (HG2.out.on HB4.out)
  have HP3:=Lib.hid (HP2.out.on HB4.out)
  have HB5:=Lib.hid (bon HB3.out HB4.out)
  have hz5:=HB5.out.size
  clear HG2 HP2 HB3 HB4 HL Htk2
  cases hmg:((xs.take k).take 3==[77,83,1]) with
  | false=>
   rw [hmg,if_neg (by simp)] at hm5
   have HE:=Lib.hid (batD_magic H4.out HE.out (by rw [Hxl.out,<-Hk.out];exact hmg))
   subst hm5
   clear hmg
   go_wp2_with fail
   with_reducible refine (need_no 171 _).mono ?_
   rintro e w4 ⟨rfl,rfl⟩
   go_wp2
   refine ⟨rfl,But.of_below HB5.out (Nat.le_refl _),?_⟩
   rw [HE.out]
   exact ⟨rfl,by decide⟩
  | true=>
   rw [hmg,if_pos rfl] at hm5
   obtain ⟨B3,m3,c3,rfl,hr3,hm3,hc3⟩:=hm5
   have HE:=Lib.hid (batD_on H4.out HE.out (by rw [Hxl.out,<-Hk.out];exact hmg))
   rw [Hxl.out,<-Hk.out] at HE
   clear hmg
   have Hr3:=Lib.hid hr3
   have HC3:=Lib.hid (And.intro hm3 hc3)
   clear hr3 hm3 hc3
   have hfg:=HG3.out.frozen 0
   have hcg:=HG3.out.cell 0
   go_wp2_with fail
   with_reducible refine (need_yes 171 _).mono ?_
   rintro e w4 ⟨rfl,rfl⟩
   have HG6:=Lib.hid (HG3.out.set_ 0 (.slice B3 m3 c3))
   simp only [List.setIfInBounds_toArray,List.set_cons_zero] at HG6
   have HP6:=Lib.hid (HP3.out.far (p:=⟨g,0,none⟩) (by show w.heap.size≠g;omega) (.slice B3 m3 c3))
   have HR6:=Lib.hid (Hr3.out.setCell (p:=⟨g,0,none⟩) hb (.slice B3 m3 c3))
   have HB6:=Lib.hid ((But.of_below (g:=g) HB5.out (Nat.le_refl _)).set 0 (.slice B3 m3 c3))
   obtain ⟨w6,hw6⟩:∃ w6,w5.setCell ⟨g,0,none⟩ (.slice B3 m3 c3)=w6:=⟨_,rfl⟩
   rw [hw6] at HG6 HP6 HR6 HB6
   have Hw6:=Lib.hid hw6
   clear hw6
   have hz6:=HB6.out.size
   go_wp2_with fail
   rw [Hw6.out]
   with_reducible refine (number_lit base g B3 m3 c3 _ 2147483647 6 2147483647 6 rfl rfl w6 HG6.out HR6.out (by omega) HC3.out.1 HC3.out.2 (by decide)).mono ?_
   rintro e w7 h7
   cases hn1:numD 2147483647 6 ((xs.take k).drop 3) with
   | error er=>
    rw [hn1] at h7
    obtain ⟨rfl,he,rfl⟩:=h7
    have HE:=Lib.hid (show batD xs=.error er by rw [HE.out];unfold batR;rw [hn1];rfl)
    clear hn1 hfg hcg
    go_wp2
    refine ⟨rfl,HB6.out,?_⟩
    rw [HE.out]
    exact ⟨rfl,he⟩
   | ok p=>
    rw [hn1] at h7
    have HE:=Lib.hid (show batD xs=thenG (numD 9223372036854775807 6 p.2) fun q=>thenG (numD 1048576 5 q.2) fun r=>.ok (p.1,q.1,r.1,r.2) by rw [HE.out];unfold batR;rw [hn1];rfl)
    have hp1:=numD_le hn1
    obtain ⟨N1,ys⟩:=p
    obtain ⟨rfl,B4,m4,c4,rfl,hr4,hm4,hc4⟩:=h7
    simp only at HE hp1 hr4
    have hwr:=wrap_i64 N1 (by omega)
    have HG7:=Lib.hid (HG6.out.set_ 0 (.slice B4 m4 c4))
    simp only [List.setIfInBounds_toArray,List.set_cons_zero] at HG7
    have HP7:=Lib.hid (HP6.out.far (p:=⟨g,0,none⟩) (by show w.heap.size≠g;omega) (.slice B4 m4 c4))
    have HR7:=Lib.hid (hr4.setCell (p:=⟨g,0,none⟩) hb (.slice B4 m4 c4))
    have HB7:=Lib.hid (HB6.out.set 0 (.slice B4 m4 c4))
    have HC4:=Lib.hid (And.intro hm4 hc4)
    clear hn1 hfg hcg hr4 hm4 hc4 HG6 HP6 HR6 HB6 Hw6 HG3 HP3 HB5 hz5 Hr3
    generalize w6.setCell ⟨g,0,none⟩ (.slice B4 m4 c4)=w7 at *
    have hc7:=HP7.out.cell 0
    have hf7:=HP7.out.frozen 0
    have HG8:=Lib.hid (HG7.out.far (p:=⟨w.heap.size,0,none⟩) (by show g≠w.heap.size;omega) (.int .i64 (N1:Int)))
    have HP8:=Lib.hid (HP7.out.set_ 0 (.int .i64 (N1:Int)))
    simp only [List.setIfInBounds_toArray,List.set_cons_zero] at HP8
    have HR8:=Lib.hid (HR7.out.setCell (p:=⟨w.heap.size,0,none⟩) hbw (.int .i64 (N1:Int)))
    have HB8:=Lib.hid (HB7.out.far (p:=⟨w.heap.size,0,none⟩) (Nat.le_refl _) (.int .i64 (N1:Int)))
    have hz8:=HB8.out.size
    obtain ⟨w8,hw8⟩:∃ w8,w7.setCell ⟨w.heap.size,0,none⟩ (.int .i64 (N1:Int))=w8:=⟨_,rfl⟩
    rw [hw8] at HG8 HP8 HR8 HB8 hz8
    have Hw8:=Lib.hid hw8
    clear hw8
    go_wp2_with fail
    rw [Hw8.out]
    with_reducible refine (number_lit base g B4 m4 c4 ys 9223372036854775807 6 9223372036854775807 6 rfl rfl w8 HG8.out HR8.out (by omega) HC4.out.1 HC4.out.2 (by decide)).mono ?_
    rintro e w9 h9
    cases hn2:numD 9223372036854775807 6 ys with
    | error er=>
     rw [hn2] at h9
     obtain ⟨rfl,he,rfl⟩:=h9
     have HE:=Lib.hid (show batD xs=.error er by rw [HE.out,hn2];rfl)
     clear hn2 hc7 hf7
     go_wp2
     refine ⟨rfl,HB8.out,?_⟩
     rw [HE.out]
     exact ⟨rfl,he⟩
    | ok q=>
     rw [hn2] at h9
     have HE:=Lib.hid (show batD xs=thenG (numD 1048576 5 q.2) fun r=>.ok (N1,q.1,r.1,r.2) by rw [HE.out,hn2];rfl)
     have hp2:=numD_le hn2
     obtain ⟨N2,zs⟩:=q
     obtain ⟨rfl,B5,m5,c5,rfl,hr5,hm5,hc5⟩:=h9
     simp only at HE hp2 hr5
     have hwr2:=wrap_i64 N2 (by omega)
     have HG9:=Lib.hid (HG8.out.set_ 0 (.slice B5 m5 c5))
     simp only [List.setIfInBounds_toArray,List.set_cons_zero] at HG9
     have HP9:=Lib.hid (HP8.out.far (p:=⟨g,0,none⟩) (by show w.heap.size≠g;omega) (.slice B5 m5 c5))
     have HR9:=Lib.hid (hr5.setCell (p:=⟨g,0,none⟩) hb (.slice B5 m5 c5))
     have HB9:=Lib.hid (HB8.out.set 0 (.slice B5 m5 c5))
     have HC5:=Lib.hid (And.intro hm5 hc5)
     clear hn2 hc7 hf7 hr5 hm5 hc5 HG8 HP8 HR8 HB8 Hw8 HG7 HP7 HR7 HB7 hz8 hwr
     generalize w8.setCell ⟨g,0,none⟩ (.slice B5 m5 c5)=w9 at *
     have hc9:=HP9.out.cell 1
     have hf9:=HP9.out.frozen 1
     have HGa:=Lib.hid (HG9.out.far (p:=⟨w.heap.size,1,none⟩) (by show g≠w.heap.size;omega) (.int .i64 (N2:Int)))
     have HPa:=Lib.hid (HP9.out.set_ 1 (.int .i64 (N2:Int)))
     simp only [List.setIfInBounds_toArray,List.set_cons_zero,List.set_cons_succ] at HPa
     have HRa:=Lib.hid (HR9.out.setCell (p:=⟨w.heap.size,1,none⟩) hbw (.int .i64 (N2:Int)))
     have HBa:=Lib.hid (HB9.out.far (p:=⟨w.heap.size,1,none⟩) (Nat.le_refl _) (.int .i64 (N2:Int)))
     go_wp2
     clear hc9 hf9 HG9 HP9 HR9 HB9
     generalize w9.setCell ⟨w.heap.size,1,none⟩ (.int .i64 (N2:Int))=wa at *
     have hza:=HBa.out.size
     have hS:Blk wa.drew w.heap.size 30 #[.int .i64 (N1:Int),.int .i64 (N2:Int),.slice none 0 0]:=HPa.out.drew
     have HL0:=Lib.hid (show ∀ w',Blk w' w.heap.size 30 #[.int .i64 (N1:Int),.int .i64 (N2:Int),.slice none 0 0]->w'.cell? ⟨w.heap.size,0,none⟩=some (.int .i64 (N1:Int)) from fun w' h=>h.cell 0)
     have HL1:=Lib.hid (show ∀ w',Blk w' w.heap.size 30 #[.int .i64 (N1:Int),.int .i64 (N2:Int),.slice none 0 0]->w'.cell? ⟨w.heap.size,1,none⟩=some (.int .i64 (N2:Int)) from fun w' h=>h.cell 1)
     have HL2:=Lib.hid (show ∀ w',Blk w' w.heap.size 30 #[.int .i64 (N1:Int),.int .i64 (N2:Int),.slice none 0 0]->w'.cell? ⟨w.heap.size,2,none⟩=some (.slice none 0 0) from fun w' h=>h.cell 2)
     refine hR (fun w'=>Blk w' w.heap.size 30 #[.int .i64 (N1:Int),.int .i64 (N2:Int),.slice none 0 0]) [ff 0,ff 1,tt 2,ff 3,tt 4,ff 5] ?_
     refine hP3 hS HL0.out HL1.out HL2.out ?_
     refine hP hS ?_
     refine hE fun K hK=>?_
     go_simp
     with_reducible refine (number_lit base g B5 m5 c5 zs 1048576 5 1048576 5 rfl rfl wa.drew HGa.out.drew HRa.out.drew (by have h:wa.drew.heap.size=wa.heap.size:=rfl;omega) HC5.out.1 HC5.out.2 (by decide)).mono ?_
     rintro e wb hb'
     cases hn3:numD 1048576 5 zs with
     | error er=>
      rw [hn3] at hb'
      obtain ⟨rfl,he,rfl⟩:=hb'
      have HE:=Lib.hid (show batD xs=.error er by rw [HE.out,hn3];rfl)
      refine ⟨rfl,HBa.out.drew,?_⟩
      rw [HE.out]
      exact ⟨rfl,he⟩
     | ok r=>
      rw [hn3] at hb'
      have HE:=Lib.hid (show batD xs=.ok (N1,N2,r.1,r.2) by rw [HE.out,hn3];rfl)
      have hp3:=numD_le hn3
      obtain ⟨N3,us⟩:=r
      obtain ⟨rfl,B6,m6,c6,rfl,hr6,hm6,hc6⟩:=hb'
      simp only at HE hp3 hr6
      have hwr3:=wrap_i64 N3 (by omega)
      have HGb:=Lib.hid (HGa.out.drew.set_ 0 (.slice B6 m6 c6))
      simp only [List.setIfInBounds_toArray,List.set_cons_zero] at HGb
      have HPb:=Lib.hid (HPa.out.drew.far (p:=⟨g,0,none⟩) (by show w.heap.size≠g;omega) (.slice B6 m6 c6))
      have HRb:=Lib.hid (hr6.setCell (p:=⟨g,0,none⟩) hb (.slice B6 m6 c6))
      have HBb:=Lib.hid (HBa.out.drew.set 0 (.slice B6 m6 c6))
      have HC6:=Lib.hid (And.intro hm6 hc6)
      clear hn3 hr6 hm6 hc6
      generalize wa.drew.setCell ⟨g,0,none⟩ (.slice B6 m6 c6)=wb at *
      refine held_go hK (by exact HPb.out) fun hS=>?_
      clear hK K
      try simp only [zp]
      refine hP hS ?_
      refine hE fun K hK=>?_
      have hc0:=HPb.out.cell 0
      have hc1:=HPb.out.cell 1
      have hc2:=HPb.out.cell 2
      have hf0:=HPb.out.frozen 0
      have hf1:=HPb.out.frozen 1
      have hf2:=HPb.out.frozen 2
      go_simp
      have HGc:=Lib.hid (((HGb.out.far (p:=⟨w.heap.size,0,none⟩) (by show g≠w.heap.size;omega) (.int .i64 (N1:Int))).far (p:=⟨w.heap.size,1,none⟩) (by show g≠w.heap.size;omega) (.int .i64 (N2:Int))).far (p:=⟨w.heap.size,2,none⟩) (by show g≠w.heap.size;omega) (.slice none 0 0))
      have HPc:=Lib.hid (((HPb.out.set_ 0 (.int .i64 (N1:Int))).set_ 1 (.int .i64 (N2:Int))).set_ 2 (.slice none 0 0))
      simp only [List.setIfInBounds_toArray,List.set_cons_zero,List.set_cons_succ] at HPc
      have HRc:=Lib.hid (((HRb.out.setCell (p:=⟨w.heap.size,0,none⟩) hbw (.int .i64 (N1:Int))).setCell (p:=⟨w.heap.size,1,none⟩) hbw (.int .i64 (N2:Int))).setCell (p:=⟨w.heap.size,2,none⟩) hbw (.slice none 0 0))
      have HBc:=Lib.hid (((HBb.out.far (p:=⟨w.heap.size,0,none⟩) (Nat.le_refl _) (.int .i64 (N1:Int))).far (p:=⟨w.heap.size,1,none⟩) (Nat.le_refl _) (.int .i64 (N2:Int))).far (p:=⟨w.heap.size,2,none⟩) (Nat.le_refl _) (.slice none 0 0))
      clear hc0 hc1 hc2 hf0 hf1 hf2 HGb HPb HRb HBb
      generalize ((wb.setCell ⟨w.heap.size,0,none⟩ (.int .i64 (N1:Int))).setCell ⟨w.heap.size,1,none⟩ (.int .i64 (N2:Int))).setCell ⟨w.heap.size,2,none⟩ (.slice none 0 0)=wc at *
      refine held_go hK (by exact HPc.out) fun hS=>?_
      clear hK K
      try simp only [zp]
      refine hP hS ?_
      refine held_end ?_
      have hc0:=HPc.out.cell 0
      have hc1:=HPc.out.cell 1
      have hc2:=HPc.out.cell 2
      go_wp2
      refine bodyPost_ret (v:=.tuple #[.agg #[.int .i64 (N1:Int),.int .i64 (N2:Int),.slice none 0 0],.int .i64 (N3:Int)]) (by rw [results_cell_tmp rfl];simp [go_sem,hc0,hc1,hc2]) rfl ?_
      refine ⟨HBc.out,?_⟩
      rw [HE.out]
      exact ⟨rfl,B6,m6,c6,HGc.out,HRc.out,HC6.out.1,HC6.out.2⟩
end Go.Proofs.YtjpjalmilfgckaaGreatDoor
