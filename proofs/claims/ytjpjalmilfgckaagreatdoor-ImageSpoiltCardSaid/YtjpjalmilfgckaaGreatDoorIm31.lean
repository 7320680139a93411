/- Part 31 of the walks, merged: each text under its own heading. Conditions: none of its own; each lemma states what it asks. -/
import Derived.Test.YtjpjalmilfgckaaGreatDoorIm7
import Derived.Test.YtjpjalmilfgckaaGreatDoorIm10
import Derived.Test.YtjpjalmilfgckaaGreatDoorIm20
import Derived.Test.YtjpjalmilfgckaaGreatDoorIm23
import Derived.Test.YtjpjalmilfgckaaGreatDoorIm28
import Derived.Test.YtjpjalmilfgckaaGreatDoorIm30
import Derived.Lib.Hide
set_option maxRecDepth 100000
set_option linter.unusedVariables false
set_option linter.unusedSimpArgs false
namespace Go.Proofs.YtjpjalmilfgckaaGreatDoor
open Go.RowKit Go.Deep Go.ChangeShapes Go.WideShapes Go.Shelf Go.Lib
def CoIn (c:Co):Prop:=(-9223372036854775808<=c.2.2.1/\c.2.2.1<=9223372036854775807)/\K9 c.2.2.2.2.2.1/\c.2.1.size<=maxLen/\c.2.2.2.2.2.2.size<=maxLen
theorem scols_of {H:Type} {enc:TypeId×Value->H} {w:World} {held:Bool} {a:Option Addr} {len cap:Nat} {d:DataW H} {p:List MemPlace} (h:DataW.Trod enc Tryz.prog w 0 (fun _=>true) held 32 (.slice a len cap) d p) :
  ∃ xs:List Co,Reads w w.heap.size 7 a len (cos xs)/\len<=cap/\cap<=maxLen/\∀ c∈xs,CoIn c:=by
 haveI:Inhabited Co:=⟨(0,⟨#[]⟩,0,false,false,0,⟨#[]⟩)⟩
 refine structs_of 7 coV CoIn (by decide) (fun _=>rfl) Tryz.underlying32 (by kernel_rfl) (fun n cs y hy=>?_) h
 obtain ⟨m,hl,hc⟩:=struct_fields Tryz.underlying45 hy
 rw [show Tryz.prog.cellsOf 45=7 by kernel_rfl] at hl
 match cs,hl with
 | [v0,v1,v2,v3,v4,v5,v6],_=>
  obtain ⟨y0,g0⟩:∃ y,DataW.trod enc Tryz.prog w 0 (fun _=>true) held m 3 (([v0,v1,v2,v3,v4,v5,v6].drop 0).take (Tryz.prog.cellsOf 3))=some y:=hc 0 _ rfl
  obtain ⟨y1,g1⟩:∃ y,DataW.trod enc Tryz.prog w 0 (fun _=>true) held m 9 (([v0,v1,v2,v3,v4,v5,v6].drop 1).take (Tryz.prog.cellsOf 9))=some y:=hc 1 _ rfl
  obtain ⟨y2,g2⟩:∃ y,DataW.trod enc Tryz.prog w 0 (fun _=>true) held m 43 (([v0,v1,v2,v3,v4,v5,v6].drop 2).take (Tryz.prog.cellsOf 43))=some y:=hc 2 _ rfl
  obtain ⟨y3,g3⟩:∃ y,DataW.trod enc Tryz.prog w 0 (fun _=>true) held m 23 (([v0,v1,v2,v3,v4,v5,v6].drop 4).take (Tryz.prog.cellsOf 23))=some y:=hc 3 _ rfl
  rw [show Tryz.prog.cellsOf 3=1 by kernel_rfl] at g0
  rw [show Tryz.prog.cellsOf 9=1 by kernel_rfl] at g1
  rw [show Tryz.prog.cellsOf 43=2 by kernel_rfl] at g2
  rw [show Tryz.prog.cellsOf 23=3 by kernel_rfl] at g3
  simp only [List.drop_zero,List.drop_succ_cons,List.take_succ_cons,List.take_zero] at g0 g1 g2 g3
  obtain ⟨i,e0,-,-⟩:=DataW.trod_int Tryz.underlying3 g0
  obtain ⟨s,e1,_,b1⟩:=DataW.trod_string Tryz.underlying9 g1
  obtain ⟨k,nl,e2,b2⟩:=ktype_of g2
  obtain ⟨c,e3,b3,b4,b5⟩:=cell_of g3
  cases e0
  cases e1
  cases e2
  cases e3
  exact ⟨(i,s,k,nl,c),rfl,b2,⟨b3,b4⟩,b1,b5⟩
theorem ins_flat (l:List Int):l.flatMap (fun x=>[Value.int .i64 x])=ins l:=by
 induction l with
 | nil=>rfl
 | cons x l ih=>rw [List.flatMap_cons,ih];rfl
theorem sints_of {H:Type} {enc:TypeId×Value->H} {w:World} {held:Bool} {a:Option Addr} {len cap:Nat} {d:DataW H} {p:List MemPlace} (h:DataW.Trod enc Tryz.prog w 0 (fun _=>true) held 28 (.slice a len cap) d p) :
  ∃ xs:List Int,Reads w w.heap.size 1 a len (ins xs)/\len<=cap/\cap<=maxLen:=by
 obtain ⟨xs,h1,h2,h3,-⟩:=structs_of 1 (fun x:Int=>[Value.int .i64 x]) (fun _=>True) (by decide) (fun _=>rfl) Tryz.underlying28 (by kernel_rfl) (fun n cs y hy=>by
  obtain ⟨i,e0,-,-⟩:=DataW.trod_int Tryz.underlying3 hy
  exact ⟨i,e0,trivial⟩) h
 rw [ins_flat] at h1
 exact ⟨xs,h1,h2,h3⟩
structure SchIn (w:World) (B:Nat) (g:Sh) (s:Sc):Prop where
 cols:Reads w B 7 g.1.1 g.1.2.1 (cos s.1)
 keys:Reads w B 1 g.2.1 g.2.2.1 (ins s.2)
 c1:g.1.2.1<=g.1.2.2
 c2:g.1.2.2<=maxLen
 k1:g.2.2.1<=g.2.2.2
 k2:g.2.2.2<=maxLen
 ok:ScOk s
theorem scOk_of {cs:List Co} {ks:List Int} (h:∀ c∈cs,CoIn c):ScOk (cs,ks):=⟨fun c hc=>(h c hc).1,fun c hc=>(h c hc).2.1,fun c hc=>(h c hc).2.2.1,fun c hc=>(h c hc).2.2.2⟩
theorem sch_cells {H:Type} {enc:TypeId×Value->H} {w:World} {held:Bool} {n:Nat} {cs:List Value} {y:DataW H×List MemPlace} (hy:DataW.trod enc Tryz.prog w 0 (fun _=>true) held n 48 cs=some y) :
  ∃ (g:Sh) (s:Sc),cs=scV g/\SchIn w w.heap.size g s:=by
 obtain ⟨m,hl,hc⟩:=struct_cells Tryz.underlying48 (by kernel_rfl) (by kernel_rfl) hy
 match cs,hl with
 | [v0,v1],_=>
  obtain ⟨y0,g0⟩:=hc 0 _ _ rfl rfl
  obtain ⟨y1,g1⟩:=hc 1 _ _ rfl rfl
  have k0:∃ a l c,v0=.slice a l c:=by
   rcases open_slice Tryz.underlying32 g0 with ⟨e0,-⟩ | ⟨ad,l,c,-,-,-,-,e0,-⟩<;>(cases e0;exact ⟨_,_,_,rfl⟩)
  have k1:∃ a l c,v1=.slice a l c:=by
   rcases open_slice Tryz.underlying28 g1 with ⟨e0,-⟩ | ⟨ad,l,c,-,-,-,-,e0,-⟩<;>(cases e0;exact ⟨_,_,_,rfl⟩)
  obtain ⟨a,l,c,rfl⟩:=k0
  obtain ⟨b,k,d,rfl⟩:=k1
  obtain ⟨xs,r1,r2,r3,r4⟩:=scols_of (a:=a) (len:=l) (cap:=c) ⟨m,g0⟩
  obtain ⟨ks,q1,q2,q3⟩:=sints_of (a:=b) (len:=k) (cap:=d) ⟨m,g1⟩
  exact ⟨((a,l,c),(b,k,d)),(xs,ks),rfl,r1,q1,r2,r3,q2,q3,scOk_of r4⟩
theorem agg_list {cs:Array Value} {cl:List Value} (h:cs.toList=cl):cs=cl.toArray:=by rw [<-h]
theorem schema_of {H:Type} {enc:TypeId×Value->H} {w:World} {held:Bool} {cs:Array Value} {d:DataW H} {p:List MemPlace} (h:DataW.Trod enc Tryz.prog w 0 (fun _=>true) held 48 (.agg cs) d p) :
  ∃ (CA:Option Addr) (cn cc:Nat) (KA:Option Addr) (kn kc:Nat) (s:Sc),cs=#[.slice CA cn cc,.slice KA kn kc]/\SchIn w w.heap.size ((CA,cn,cc),(KA,kn,kc)) s:=by
 obtain ⟨fuel,hf⟩:=h
 obtain ⟨g,s,h1,h2⟩:=sch_cells hf
 exact ⟨g.1.1,g.1.2.1,g.1.2.2,g.2.1,g.2.2.1,g.2.2.2,s,agg_list h1,h2⟩
theorem schemas_of {H:Type} {enc:TypeId×Value->H} {w:World} {held:Bool} {a:Option Addr} {len cap:Nat} {d:DataW H} {p:List MemPlace} (h:DataW.Trod enc Tryz.prog w 0 (fun _=>true) held 59 (.slice a len cap) d p) :
  ∃ l:List (Sh×Sc),Reads w w.heap.size 2 a len (l.flatMap fun q=>scV q.1)/\len<=cap/\cap<=maxLen/\∀ q∈l,SchIn w w.heap.size q.1 q.2:=by
 haveI:Inhabited (Sh×Sc):=⟨((none,0,0),(none,0,0)),[],[]⟩
 exact structs_of 2 (fun q:Sh×Sc=>scV q.1) (fun q=>SchIn w w.heap.size q.1 q.2) (by decide) (fun _=>rfl) Tryz.underlying59 (by kernel_rfl) (fun n cs y hy=>by
  obtain ⟨g,s,h1,h2⟩:=sch_cells hy
  exact ⟨(g,s),h1,h2⟩) h
theorem marks_of {H:Type} {enc:TypeId×Value->H} {w:World} {held:Bool} {a:Option Addr} {len cap:Nat} {d:DataW H} {p:List MemPlace} (h:DataW.Trod enc Tryz.prog w 0 (fun _=>true) held 49 (.slice a len cap) d p) :
  ∃ xs:List Mk,Reads w w.heap.size 2 a len (mks xs)/\len<=cap/\cap<=maxLen/\MkOk xs:=by
 haveI:Inhabited Mk:=⟨(⟨#[]⟩,0)⟩
 refine structs_of 2 mkV (fun m=>m.1.size<=maxLen /\ -9223372036854775808<=m.2/\m.2<=9223372036854775807) (by decide) (fun _=>rfl) Tryz.underlying49 (by kernel_rfl) (fun n cs y hy=>?_) h
 obtain ⟨m,hl,hc⟩:=struct_cells Tryz.underlying90 (by kernel_rfl) (by kernel_rfl) hy
 match cs,hl with
 | [v0,v1],_=>
  obtain ⟨y0,g0⟩:=hc 0 _ _ rfl rfl
  obtain ⟨y1,g1⟩:=hc 1 _ _ rfl rfl
  obtain ⟨s,e0,_,b0⟩:=DataW.trod_string Tryz.underlying9 g0
  obtain ⟨k,e1,_,b1⟩:=DataW.trod_int Tryz.underlying2 g1
  cases e0
  cases e1
  exact ⟨(s,k),rfl,b0,(bounds_i64 b1).1,(bounds_i64 b1).2⟩
structure StIn (w:World) (B:Nat) (v q:Int) (MA:Option Addr) (mn mc:Nat) (RA:Option Addr) (rn rc:Nat) (LA:Option Addr) (ln lc:Nat) (ms:List Mk) (l:List It) (la:List UInt8):Prop where
 v9 : -9223372036854775808<=v/\v<=9223372036854775807
 q9 : -9223372036854775808<=q/\q<=9223372036854775807
 marks:Reads w B 2 MA mn (mks ms)
 m1:mn<=mc
 m2:mc<=maxLen
 mok:MkOk ms
 rows:ItemsAt w B RA rn l
 r1:rn<=rc
 r2:rc<=maxLen
 rok:ItOk l
 last:Reads w B 1 LA ln (u8s la)
 l1:ln<=lc
 l2:lc<=maxLen
theorem state_of {H:Type} {enc:TypeId×Value->H} {w:World} {held:Bool} {cs:Array Value} {d:DataW H} {p:List MemPlace} (h:DataW.Trod enc Tryz.prog w 0 (fun _=>true) held 51 (.agg cs) d p) :
  ∃ (v q:Int) (MA:Option Addr) (mn mc:Nat) (RA:Option Addr) (rn rc:Nat) (LA:Option Addr) (ln lc:Nat) (ms:List Mk) (l:List It) (la:List UInt8),cs=#[.int .i64 v,.int .i64 q,.slice MA mn mc,.slice RA rn rc,.slice LA ln lc]/\StIn w w.heap.size v q MA mn mc RA rn rc LA ln lc ms l la:=by
 obtain ⟨fuel,hf⟩:=h
 obtain ⟨m,hl,hc⟩:=struct_cells Tryz.underlying51 (by kernel_rfl) (by kernel_rfl) hf
 obtain ⟨cl,hcl⟩:∃ cl,cl=cs.toList:=⟨_,rfl⟩
 have hcs:cs=cl.toArray:=by rw [hcl]
 have hcells:(Value.agg cs).cells=cs:=rfl
 rw [hcells,<-hcl] at hl hc
 match cl,hl with
 | [v0,v1,v2,v3,v4],_=>
  obtain ⟨y0,g0⟩:=hc 0 _ _ rfl rfl
  obtain ⟨y1,g1⟩:=hc 1 _ _ rfl rfl
  obtain ⟨y2,g2⟩:=hc 2 _ _ rfl rfl
  obtain ⟨y3,g3⟩:=hc 3 _ _ rfl rfl
  obtain ⟨y4,g4⟩:=hc 4 _ _ rfl rfl
  obtain ⟨v,e0,_,b0⟩:=DataW.trod_int Tryz.underlying3 g0
  obtain ⟨q,e1,_,b1⟩:=DataW.trod_int Tryz.underlying2 g1
  have k2:∃ a l c,v2=.slice a l c:=by
   rcases open_slice Tryz.underlying49 g2 with ⟨e0,-⟩ | ⟨ad,l,c,-,-,-,-,e0,-⟩<;>(cases e0;exact ⟨_,_,_,rfl⟩)
  have k3:∃ a l c,v3=.slice a l c:=by
   rcases open_slice Tryz.underlying27 g3 with ⟨e0,-⟩ | ⟨ad,l,c,-,-,-,-,e0,-⟩<;>(cases e0;exact ⟨_,_,_,rfl⟩)
  have k4:∃ a l c,v4=.slice a l c:=by
   rcases open_slice Tryz.underlying35 g4 with ⟨e0,-⟩ | ⟨ad,l,c,-,-,-,-,e0,-⟩<;>(cases e0;exact ⟨_,_,_,rfl⟩)
  obtain ⟨MA,mn,mc,rfl⟩:=k2
  obtain ⟨RA,rn,rc,rfl⟩:=k3
  obtain ⟨LA,ln,lc,rfl⟩:=k4
  cases e0
  cases e1
  obtain ⟨ms,q1,q2,q3,q4⟩:=marks_of (a:=MA) (len:=mn) (cap:=mc) ⟨m,g2⟩
  obtain ⟨l,r1,r2,r3,r4⟩:=items_of (a:=RA) (len:=rn) (cap:=rc) ⟨m,g3⟩
  obtain ⟨la,s1,s2,s3⟩:=u8s_of (a:=LA) (len:=ln) (cap:=lc) g4
  exact ⟨v,q,MA,mn,mc,RA,rn,rc,LA,ln,lc,ms,l,la,hcs,bounds_i64 b0,bounds_i64 b1,q1,q2,q3,q4,r1,r2,r3,r4,s1,s2,s3⟩
end Go.Proofs.YtjpjalmilfgckaaGreatDoor
namespace Go.Proofs.YtjpjalmilfgckaaGreatDoor
open Go.RowKit
structure RowsS (w:World) (base:Nat) (A1:Option Addr) (n1 c1:Nat) (A2:Option Addr) (n2 c2:Nat) (s:Sc):Prop where
 cols:w.ownsRow base 45 7 (.slice A1 n1 c1) n1 (cos s.1)
 keys:w.ownsRow base 3 1 (.slice A2 n2 c2) n2 (ins s.2)
structure RowsT (w:World) (base:Nat) (MA:Option Addr) (mn mc:Nat) (RA:Option Addr) (rn rc:Nat) (LA:Option Addr) (ln lc:Nat) (ms:List Mk) (l:List It) (la:List UInt8):Prop where
 marks:w.ownsRow base 90 2 (.slice MA mn mc) mn (mks ms)
 rows:ItemsOwn w base RA rn rc l
 last:w.ownsRow base 5 1 (.slice LA ln lc) ln (u8s la)
section
variable {w w':World} {base base2 g:Nat} {A1 A2 MA RA LA:Option Addr} {n1 c1 n2 c2 mn mc rn rc ln lc:Nat} {s:Sc} {ms:List Mk} {l:List It} {la:List UInt8} {cs:Array Value} {a b c d e:Value}
theorem RowsS.on (h:RowsS w base A1 n1 c1 A2 n2 c2 s) (hb:Below w.heap.size w w'):RowsS w' base A1 n1 c1 A2 n2 c2 s:=⟨own_below h.cols hb,own_below h.keys hb⟩
theorem RowsS.at_ (h:RowsS w base A1 n1 c1 A2 n2 c2 s):ScAt w A1 n1 A2 n2 s:=⟨own_reads h.cols,own_reads h.keys⟩
theorem RowsT.on (h:RowsT w base MA mn mc RA rn rc LA ln lc ms l la) (hb:Below w.heap.size w w'):RowsT w' base MA mn mc RA rn rc LA ln lc ms l la:=⟨own_below h.marks hb,h.rows.below hb,own_below h.last hb⟩
theorem RowsT.at_ (h:RowsT w base MA mn mc RA rn rc LA ln lc ms l la):StAt w MA mn RA rn LA ln ms l la:=⟨own_reads h.marks,h.rows.at_,own_reads h.last⟩
theorem own_far2 {size n:Nat} {t et:TypeId} {v:Value} {xs:List Value} (h:w.ownsRow base et size v n xs) (hb:Blk w g t cs) (hne:et≠t):((w.setCell ⟨g,0,none⟩ a).setCell ⟨g,1,none⟩ b).ownsRow base et size v n xs:=own_far (own_far h hb hne 0 a) (hb.set_ 0 a) hne 1 b
theorem RowsS.far2 (h:RowsS w base A1 n1 c1 A2 n2 c2 s) (hb:Blk w g 48 cs):RowsS ((w.setCell ⟨g,0,none⟩ a).setCell ⟨g,1,none⟩ b) base A1 n1 c1 A2 n2 c2 s:=⟨own_far2 h.cols hb (by decide),own_far2 h.keys hb (by decide)⟩
theorem RowsS.far5 (h:RowsS w base A1 n1 c1 A2 n2 c2 s) (hb:Blk w g 51 cs):RowsS (((((w.setCell ⟨g,0,none⟩ a).setCell ⟨g,1,none⟩ b).setCell ⟨g,2,none⟩ c).setCell ⟨g,3,none⟩ d).setCell ⟨g,4,none⟩ e) base A1 n1 c1 A2 n2 c2 s:=⟨own_far5 h.cols hb (by decide) _ _ _ _ _,own_far5 h.keys hb (by decide) _ _ _ _ _⟩
theorem RowsT.far2 (h:RowsT w base MA mn mc RA rn rc LA ln lc ms l la) (hb:Blk w g 48 cs):RowsT ((w.setCell ⟨g,0,none⟩ a).setCell ⟨g,1,none⟩ b) base MA mn mc RA rn rc LA ln lc ms l la:=⟨own_far2 h.marks hb (by decide),(h.rows.far hb (by decide) (by decide) 0 a).far (hb.set_ 0 a) (by decide) (by decide) 1 b,own_far2 h.last hb (by decide)⟩
theorem RowsT.far5 (h:RowsT w base MA mn mc RA rn rc LA ln lc ms l la) (hb:Blk w g 51 cs):RowsT (((((w.setCell ⟨g,0,none⟩ a).setCell ⟨g,1,none⟩ b).setCell ⟨g,2,none⟩ c).setCell ⟨g,3,none⟩ d).setCell ⟨g,4,none⟩ e) base MA mn mc RA rn rc LA ln lc ms l la:=⟨own_far5 h.marks hb (by decide) _ _ _ _ _,items_far5 h.rows hb (by decide) (by decide) _ _ _ _ _,own_far5 h.last hb (by decide) _ _ _ _ _⟩
theorem Blk.far2 {k:Nat} {t:TypeId} (h:Blk w k t cs) (hk:k≠g):Blk ((w.setCell ⟨g,0,none⟩ a).setCell ⟨g,1,none⟩ b) k t cs:=(h.far (p:=⟨g,0,none⟩) hk a).far (p:=⟨g,1,none⟩) hk b
theorem Blk.far5 {k:Nat} {t:TypeId} (h:Blk w k t cs) (hk:k≠g):Blk (((((w.setCell ⟨g,0,none⟩ a).setCell ⟨g,1,none⟩ b).setCell ⟨g,2,none⟩ c).setCell ⟨g,3,none⟩ d).setCell ⟨g,4,none⟩ e) k t cs:=((((h.far (p:=⟨g,0,none⟩) hk a).far (p:=⟨g,1,none⟩) hk b).far (p:=⟨g,2,none⟩) hk c).far (p:=⟨g,3,none⟩) hk d).far (p:=⟨g,4,none⟩) hk e
theorem below_far2 {w0:World} {B:Nat} (h:Below B w0 w) (hB:B<=g):Below B w0 ((w.setCell ⟨g,0,none⟩ a).setCell ⟨g,1,none⟩ b):=(h.setCell (p:=⟨g,0,none⟩) hB a).setCell (p:=⟨g,1,none⟩) hB b
theorem below_far5 {w0:World} {B:Nat} (h:Below B w0 w) (hB:B<=g):Below B w0 (((((w.setCell ⟨g,0,none⟩ a).setCell ⟨g,1,none⟩ b).setCell ⟨g,2,none⟩ c).setCell ⟨g,3,none⟩ d).setCell ⟨g,4,none⟩ e):=((((h.setCell (p:=⟨g,0,none⟩) hB a).setCell (p:=⟨g,1,none⟩) hB b).setCell (p:=⟨g,2,none⟩) hB c).setCell (p:=⟨g,3,none⟩) hB d).setCell (p:=⟨g,4,none⟩) hB e
theorem Blk.set2 {t:TypeId} {x y:Value} (h:Blk w g t #[x,y]):Blk ((w.setCell ⟨g,0,none⟩ a).setCell ⟨g,1,none⟩ b) g t #[a,b]:=by
 have:=(h.set_ 0 a).set_ 1 b
 simpa using this
theorem Blk.set5 {t:TypeId} {x y z u v:Value} (h:Blk w g t #[x,y,z,u,v]):Blk (((((w.setCell ⟨g,0,none⟩ a).setCell ⟨g,1,none⟩ b).setCell ⟨g,2,none⟩ c).setCell ⟨g,3,none⟩ d).setCell ⟨g,4,none⟩ e) g t #[a,b,c,d,e]:=by
 have:=((((h.set_ 0 a).set_ 1 b).set_ 2 c).set_ 3 d).set_ 4 e
 simpa using this
end
theorem ScAt.of_in {w:World} {g:Sh} {s:Sc} (h:SchIn w w.heap.size g s):ScAt w g.1.1 g.1.2.1 g.2.1 g.2.2.1 s:=⟨h.cols,h.keys⟩
structure LawS (g:Nat) (A1:Option Addr) (n1 c1:Nat) (A2:Option Addr) (n2 c2:Nat) (s:Sc) (wc:World):Prop where
 box:Blk wc g 48 #[.slice A1 n1 c1,.slice A2 n2 c2]
 at_:ScAt wc A1 n1 A2 n2 s
 le1:n1<=40
 le2:n2<=12
 ok:ScOk s
structure LawT (g:Nat) (v q:Int) (MA:Option Addr) (mn mc:Nat) (RA:Option Addr) (rn rc:Nat) (LA:Option Addr) (ln lc:Nat) (ms:List Mk) (l:List It) (la:List UInt8) (wc:World):Prop where
 box:Blk wc g 51 #[.int .i64 v,.int .i64 q,.slice MA mn mc,.slice RA rn rc,.slice LA ln lc]
 at_:StAt wc MA mn RA rn LA ln ms l la
 m20:mn<=20
 r20:rn<=20
 l300:ln<=300
 mok:MkOk ms
 iok:ItOk l
 q9:q<=9223372036854775807
section
variable {wc w':World} {g:Nat} {A1 A2 MA RA LA:Option Addr} {n1 c1 n2 c2 mn mc rn rc ln lc:Nat} {s:Sc} {v q:Int} {ms:List Mk} {l:List It} {la:List UInt8}
theorem LawS.on (h:LawS g A1 n1 c1 A2 n2 c2 s wc) (hb:Below wc.heap.size wc w'):LawS g A1 n1 c1 A2 n2 c2 s w':=⟨h.box.on hb,h.at_.on hb,h.le1,h.le2,h.ok⟩
theorem LawT.on (h:LawT g v q MA mn mc RA rn rc LA ln lc ms l la wc) (hb:Below wc.heap.size wc w'):LawT g v q MA mn mc RA rn rc LA ln lc ms l la w':=⟨h.box.on hb,h.at_.on hb,h.m20,h.r20,h.l300,h.mok,h.iok,h.q9⟩
theorem LawT.chk (h:LawT g v q MA mn mc RA rn rc LA ln lc ms l la wc) {k:Nat} (hs:LawS k A1 n1 c1 A2 n2 c2 s wc):ChkOk n1 n2 mn rn ln s (v,q,ms,l,la):=by
 have h1:=hs.le1
 have h2:=hs.le2
 have h3:=h.m20
 have h4:=h.r20
 have h5:=h.l300
 exact ⟨by omega,by omega,by simp only [maxLen];omega,by simp only [maxLen];omega,by simp only [maxLen];omega,hs.ok,h.mok,h.iok⟩
theorem lbytes_any (h:LawT g v q MA mn mc RA rn rc LA ln lc ms l la wc) {k:Nat} (hs:LawS k A1 n1 c1 A2 n2 c2 s wc) (hT:Tab2 wc.heap.size wc) (hE:ErrT wc) :
  Calls Tryz.prog 20 #[.agg #[.slice A1 n1 c1,.slice A2 n2 c2],.agg #[.int .i64 v,.int .i64 q,.slice MA mn mc,.slice RA rn rc,.slice LA ln lc]] wc (EncP (imgE s (v,q,ms,l,la)) (imgA s (v,q,ms,l,la)) wc):=
 ibytes_any A1 n1 c1 A2 n2 c2 s MA mn mc RA rn rc LA ln lc (v,q,ms,l,la) wc ⟨hs.at_,h.at_,hT.tabs⟩ (h.chk hs) h.q9 hT hE
theorem lsame_any (h:LawT g v q MA mn mc RA rn rc LA ln lc ms l la wc) {v' q':Int} {MB RB LB:Option Addr} {mm md rm rd lm ld:Nat} {ms':List Mk} {l':List It} {la':List UInt8} (h2:StAt wc MB mm RB rm LB lm ms' l' la') :
  Calls Tryz.prog 24 #[.agg #[.int .i64 v,.int .i64 q,.slice MA mn mc,.slice RA rn rc,.slice LA ln lc],.agg #[.int .i64 v',.int .i64 q',.slice MB mm md,.slice RB rm rd,.slice LB lm ld]] wc fun e w'=>e=.returned (.bool (sameSt (v,q,ms,l,la) (v',q',ms',l',la')))/\Below wc.heap.size wc w':=
 iSame_any v q MA mn mc RA rn rc LA ln lc ms l la v' q' MB mm md RB rm rd LB lm ld ms' l' la' wc h.at_ h2 (by have:=h.m20;simp only [maxLen];omega) (by have:=h.r20;simp only [maxLen];omega)
end
end Go.Proofs.YtjpjalmilfgckaaGreatDoor
namespace Go.Proofs.YtjpjalmilfgckaaGreatDoor
open Go.RowKit
theorem schema_info:(Tryz.prog.info? 48).map (fun i=>(i.zero,i.size,i.bytes))=some (some (.agg #[.slice none 0 0,.slice none 0 0]),2,48):=by kernel_rfl
def ShRows (w:World) (base:Nat) (hs:List Sh) (l:List Sc):Prop:=hs.length=l.length/\∀ (j:Nat) h s,hs[j]? = some h->l[j]? = some s->RowsS w base h.1.1 h.1.2.1 h.1.2.2 h.2.1 h.2.2.1 h.2.2.2 s/\h.1.2.1<=40/\h.2.2.1<=12
def SchsOwn (w:World) (base:Nat) (A:Option Addr) (n c:Nat) (l:List Sc):Prop:=∃ hs:List Sh,w.ownsRow base 48 2 (.slice A n c) n (hs.flatMap scV)/\ShRows w base hs l
section
variable {w w':World} {base n c:Nat} {A:Option Addr} {hs:List Sh} {l:List Sc}
theorem SchsOwn.nil:SchsOwn w base none 0 0 []:=⟨[],World.ownsRow_nil _ _ _ _,rfl,fun j h s hj=>by simp at hj⟩
theorem RowsS.apart {A1 A2:Option Addr} {n1 c1 n2 c2:Nat} {s:Sc} (h:RowsS w base A1 n1 c1 A2 n2 c2 s) {base2 m size2:Nat} {v2:Value} {ys:List Value} (h2:w.ownsRow base2 48 size2 v2 m ys) (hg:w.grownBy w' v2.ownBlock):RowsS w' base A1 n1 c1 A2 n2 c2 s:=⟨own_apart h.cols h2 (by decide) hg,own_apart h.keys h2 (by decide) hg⟩
theorem ShRows.on (h:ShRows w base hs l) (hb:Below w.heap.size w w'):ShRows w' base hs l:=⟨h.1,fun j g s a b=>⟨(h.2 j g s a b).1.on hb,(h.2 j g s a b).2⟩⟩
theorem SchsOwn.on (h:SchsOwn w base A n c l) (hb:Below w.heap.size w w'):SchsOwn w' base A n c l:=by
 obtain ⟨hs,h1,h2⟩:=h
 exact ⟨hs,own_below h1 hb,h2.on hb⟩
theorem SchsOwn.far5 {g:Nat} {cs:Array Value} {a b c' d e:Value} (h:SchsOwn w base A n c l) (hb:Blk w g 51 cs):SchsOwn (((((w.setCell ⟨g,0,none⟩ a).setCell ⟨g,1,none⟩ b).setCell ⟨g,2,none⟩ c').setCell ⟨g,3,none⟩ d).setCell ⟨g,4,none⟩ e) base A n c l:=by
 obtain ⟨hs,h1,h2⟩:=h
 exact ⟨hs,own_far5 h1 hb (by decide) _ _ _ _ _,h2.1,fun j g s a b=>⟨(h2.2 j g s a b).1.far5 hb,(h2.2 j g s a b).2⟩⟩
theorem SchsOwn.at_ (h:SchsOwn w base A n c l):SchsAt w w.heap.size A n l:=by
 obtain ⟨hs,h1,h2⟩:=h
 exact ⟨hs,own_reads h1,h2.1,fun j g s a b=>⟨(h2.2 j g s a b).1.at_.cols,(h2.2 j g s a b).1.at_.keys,by have:=(h2.2 j g s a b).2.1;omega,by have:=(h2.2 j g s a b).2.2;omega⟩⟩
theorem SchsOwn.caps (h:SchsOwn w base A n c l):n<=c/\c<=maxLen:=by
 obtain ⟨hs,h1,-⟩:=h
 exact own_caps2 h1
theorem schs_app {h:Sh} {s:Sc} {A2:Option Addr} {n2 c2:Nat} (h1:w.ownsRow base 48 2 (.slice A n c) n (hs.flatMap scV)) (h2:ShRows w base hs l) (hr:RowsS w base h.1.1 h.1.2.1 h.1.2.2 h.2.1 h.2.2.1 h.2.2.2 s) (hl:h.1.2.1<=40/\h.2.2.1<=12) (hg:w.grownBy w' (Value.slice A n c).ownBlock)
  (h3:w'.ownsRow base 48 2 (.slice A2 n2 c2) n2 (hs.flatMap scV++scV h)):SchsOwn w' base A2 n2 c2 (l++[s]):=by
 refine ⟨hs++[h],by simpa using h3,by simp [h2.1],fun j g t hj ht=>?_⟩
 rcases Nat.lt_or_ge j hs.length with hlt | hge
 ·rw [List.getElem?_append_left hlt] at hj
  rw [List.getElem?_append_left (by rw [<-h2.1];exact hlt)] at ht
  exact ⟨(h2.2 j g t hj ht).1.apart h1 hg,(h2.2 j g t hj ht).2⟩
 rw [List.getElem?_append_right hge] at hj
 rw [List.getElem?_append_right (by rw [<-h2.1];exact hge),<-h2.1] at ht
 have h4:j-hs.length=0:=by have:=(List.getElem?_eq_some_iff.1 hj).1;simp at this;omega
 rw [h4] at hj ht
 simp only [List.getElem?_cons_zero,Option.some.injEq] at hj ht
 subst hj ht
 exact ⟨hr.apart h1 hg,hl⟩
end
def cutL (l:List (Sh×Sc)) (i:Nat):List Sc:=(l.take i).map fun q=>cutsc q.2
theorem cutL_succ {l:List (Sh×Sc)} {i:Nat} {q:Sh×Sc} (h:l[i]? = some q):cutL l (i+1)=cutL l i++[cutsc q.2]:=by
 unfold cutL
 rw [List.take_add_one,h,List.map_append]
 rfl
theorem cutL_len {l:List (Sh×Sc)} {i:Nat} (h:i<=l.length):(cutL l i).length=i:=by simp [cutL];omega
theorem cutL_ok {l:List (Sh×Sc)} {i:Nat} (h:∀ q∈l,ScOk q.2):∀ s∈cutL l i,ScOk s:=by
 intro s hs
 obtain ⟨q,hq,rfl⟩:=List.mem_map.1 hs
 exact cutsc_ok (h q (List.mem_of_mem_take hq))
theorem scs_at {w:World} {B n k:Nat} {A:Option Addr} {l:List (Sh×Sc)} (h:Reads w B 2 A n (l.flatMap fun q=>scV q.1)) (hk:k<n):∃ ad q,A=some ad/\ad.block<B/\l[k]? = some q/\w.cell? (ad.add (k*2))=some (.slice q.1.1.1 q.1.1.2.1 q.1.1.2.2)/\w.cell? ⟨(ad.add (k*2)).block,(ad.add (k*2)).off+1,none⟩=some (.slice q.1.2.1 q.1.2.2.1 q.1.2.2.2):=by
 have hl:l.length=n:=by
  have:=h.1
  rw [flatMap_length _ 2 (fun _=>rfl)] at this
  omega
 obtain ⟨ad,e,hb,hc⟩:=h.2 (by omega)
 have hkh:k<l.length:=by omega
 have key:∀ j v,(scV l[k].1)[j]? = some v->w.cell? ((ad.add (k*2)).add j)=some v:=fun j v hv=>by
  have hj:j<2:=(List.getElem?_eq_some_iff.1 hv).1
  rw [add_of_add]
  exact hc _ _ (by rw [flatMap_at (fun q:Sh×Sc=>scV q.1) 2 (fun _=>rfl) l k j l[k] (List.getElem?_eq_getElem hkh) hj];exact hv)
 refine ⟨ad,l[k],e,hb,List.getElem?_eq_getElem hkh,?_,?_⟩
 ·have:=key 0 _ rfl
  rwa [addc_zero] at this
 have:=key 1 _ rfl
 rwa [addc_pos _ _ (by decide)] at this
theorem scs_len {w:World} {B n:Nat} {A:Option Addr} {l:List (Sh×Sc)} (h:Reads w B 2 A n (l.flatMap fun q=>scV q.1)):l.length=n:=by
 have:=h.1
 rw [flatMap_length _ 2 (fun _=>rfl)] at this
 omega
theorem imgA_le {s:Sc} {st:St} (h:StOk s st):(imgA s st).length<=1000000000:=by
 have h1:=imgP_len h.mkk h.many st.2.2.1.length
 have h2:=h.enc_le
 have h3:=leb_le (encA s.1 (st.1,st.2.1,st.2.2.2.1)).length
 have h4:=leb_le st.2.2.2.2.length
 have h5:=h.last
 rw [imgA_len,<-imgP_all (s:=s) (st:=st) (k:=st.2.2.1.length) (Nat.le_refl _),List.length_append,List.length_append,runB,runB,List.length_append,List.length_append]
 omega
end Go.Proofs.YtjpjalmilfgckaaGreatDoor
namespace Go.Proofs.YtjpjalmilfgckaaGreatDoor
open Go.RowKit
theorem bit_tmod (b i:Nat):((b:Int) / 2 ^ i).tmod 2=((b / 2 ^ i % 2:Nat):Int):=by
 have e:((2:Int) ^ i)=((2 ^ i:Nat):Int):=by rw [Int.natCast_pow];rfl
 rw [e,<-Int.natCast_ediv]
 rfl
theorem flipB_set:∀ (xs:List UInt8) (p:Nat) (b:UInt8),xs[p / 8]? = some b->flipB xs p=xs.set (p / 8) (b ^^^ UInt8.ofNat (2 ^ (p % 8)))
 | [],p,b,h=>by simp at h
 | c::xs,p,b,h=>by
  unfold flipB
  by_cases hp:p<8
  ·have h0:p / 8=0:=by omega
   rw [if_pos hp]
   rw [h0] at h ⊢
   simp only [List.getElem?_cons_zero,Option.some.injEq] at h
   subst h
   rw [Nat.mod_eq_of_lt hp]
   rfl
  have h0:p / 8=(p-8) / 8+1:=by omega
  rw [if_neg hp]
  rw [h0] at h ⊢
  rw [List.getElem?_cons_succ] at h
  rw [flipB_set xs (p-8) b h,List.set_cons_succ,show (p-8) % 8=p % 8 by omega]
theorem xor_byte (b:UInt8) (q:Nat) (hq:q<8):bits .xor .u8 (b.toNat:Int) ((2:Int) ^ q % 256)=((b ^^^ UInt8.ofNat (2 ^ q)).toNat:Int):=by
 have h2:(2:Nat) ^ q<=2 ^ 7:=Nat.pow_le_pow_right (by omega) (by omega)
 have e:((2:Int) ^ q) % 256=((2 ^ q:Nat):Int):=by
  have e:((2:Int) ^ q)=((2 ^ q:Nat):Int):=by rw [Int.natCast_pow];rfl
  rw [e]
  generalize 2 ^ q=z at h2 ⊢
  omega
 rw [e,u8_xor_nat _ _ b.toNat_lt (by omega),UInt8.toNat_xor,ofNat_toNat' _ (by omega)]
end Go.Proofs.YtjpjalmilfgckaaGreatDoor
namespace Go.Proofs.YtjpjalmilfgckaaGreatDoor
inductive PlanT where
 | done
 | pure (i:Nat) (p:PlanT)
 | eff (i:Nat) (p:PlanT)
 | fork (i j:Nat) (p q:PlanT)
 | tri (i j k:Nat) (p q r:PlanT)
section
variable {P:Program} {md:Region.Mode} {ops:Array Oper} {Q:Exit->Act->World->Prop} {S:World->Prop}
def wpTri (P:Program) (ops:Array Oper) (Q:Exit->Act->World->Prop) (S:World->Prop):PlanT->Act->World->Prop
 | .done,a,w=>Q .normal a w
 | .eff i p,a,w=>∃ o,ops[i]? = some o/\∀ K:Act->World->Prop,(∀ a w,S w->wpTri P ops Q S p a w->K a w)->if Region.wanted o (yielded ops a.tmps) then o.wp P a w K Q else K (a.put o.dst undef) w
 | .pure i p,a,w=>∃ o v,ops[i]? = some o/\YieldsIf P ops S o v a/\S w/\wpTri P ops Q S p (a.put o.dst v) w
 | .fork i j p q, a, w => (∃ o, ops[i]? = some o ∧ ∀ K : Act → World → Prop, (∀ a w, S w → wpTri P ops Q S p a w → K a w) → if Region.wanted o (yielded ops a.tmps) then o.wp P a w K Q else K (a.put o.dst undef) w) ∧
   (∃ o,ops[j]? = some o/\∀ K:Act->World->Prop,(∀ a w,S w->wpTri P ops Q S q a w->K a w)->if Region.wanted o (yielded ops a.tmps) then o.wp P a w K Q else K (a.put o.dst undef) w)
 | .tri i j k p q r, a, w => (∃ o, ops[i]? = some o ∧ ∀ K : Act → World → Prop, (∀ a w, S w → wpTri P ops Q S p a w → K a w) → if Region.wanted o (yielded ops a.tmps) then o.wp P a w K Q else K (a.put o.dst undef) w) ∧
   (∃ o,ops[j]? = some o/\∀ K:Act->World->Prop,(∀ a w,S w->wpTri P ops Q S q a w->K a w)->if Region.wanted o (yielded ops a.tmps) then o.wp P a w K Q else K (a.put o.dst undef) w) /\
   (∃ o,ops[k]? = some o/\∀ K:Act->World->Prop,(∀ a w,S w->wpTri P ops Q S r a w->K a w)->if Region.wanted o (yielded ops a.tmps) then o.wp P a w K Q else K (a.put o.dst undef) w)
theorem tri_pure {i:Nat} {o:Oper} {d:Tmp} {p:PlanT} {a:Act} {w:World} {v:Value} (ho:ops[i]? = some o) (hd:o.dst=some d) (hw:Region.wanted o (yielded ops a.tmps)=true) (hS:S w)
  (hy:∀ w,S w->(execOp a.eval o).run P w=.ok (.value v) w) (h:wpTri P ops Q S p { tmps:=a.tmps.setIfInBounds d v,defers:=a.defers } w):wpTri P ops Q S (.pure i p) a w:=
 ⟨o,v,ho,.inl ⟨hw,hy⟩,hS,by rw [hd];exact h⟩
theorem tri_eff1 {i:Nat} {o:Oper} {p:PlanT} {a:Act} {w:World} (ho:ops[i]? = some o) (hw:Region.wanted o (yielded ops a.tmps)=true)
  (h:∀ K:Act->World->Prop,(∀ a w,S w->wpTri P ops Q S p a w->K a w)->o.wp P a w K Q):wpTri P ops Q S (.eff i p) a w:=
 ⟨o,ho,fun K hK=>by rw [if_pos hw];exact h K hK⟩
theorem tri_fork {i j:Nat} {p q:PlanT} {a:Act} {w:World} (h1:wpTri P ops Q S (.eff i p) a w) (h2:wpTri P ops Q S (.eff j q) a w):wpTri P ops Q S (.fork i j p q) a w:=⟨h1,h2⟩
theorem tri_tri {i j k:Nat} {p q r:PlanT} {a:Act} {w:World} (h1:wpTri P ops Q S (.eff i p) a w) (h2:wpTri P ops Q S (.eff j q) a w) (h3:wpTri P ops Q S (.eff k r) a w):wpTri P ops Q S (.tri i j k p q r) a w:=⟨h1,h2,h3⟩
theorem tri_end {a:Act} {w:World} (h:Q .normal a w):wpTri P ops Q S .done a w:=h
def triB (md:Region.Mode) (ops:Array Oper):PlanT->Array Bool->Bool
 | .done,listed=>(Region.ready md ops listed).isEmpty
 | .eff i p,listed=>Region.ready md ops listed==[i]&&triB md ops p (listed.setIfInBounds i true)
 | .pure i p,listed=>Region.free md ops listed i&&(Region.ready md ops listed).contains i&&triB md ops p (listed.setIfInBounds i true)
 | .fork i j p q,listed=>Region.ready md ops listed==[i,j]&&triB md ops p (listed.setIfInBounds i true)&&triB md ops q (listed.setIfInBounds j true)
 | .tri i j k p q r,listed=>Region.ready md ops listed==[i,j,k]&&triB md ops p (listed.setIfInBounds i true)&&triB md ops q (listed.setIfInBounds j true)&&triB md ops r (listed.setIfInBounds k true)
def triN:PlanT->Nat
 | .done=>0
 | .eff _ p=>triN p+1
 | .pure _ p=>triN p+1
 | .fork _ _ p q=>max (triN p) (triN q)+1
 | .tri _ _ _ p q r=>max (triN p) (max (triN q) (triN r))+1
theorem wpAnyH_of_tri (hs:Region.noSelect ops=true) (hQ:∀ d v c a w,Q (.panic c) (Act.put a d v) w->Q (.panic c) a w) :
  ∀ (l:PlanT) (fuel:Nat) (listed:Array Bool) (a:Act) (w:World),triN l<=fuel->triB md ops l listed=true->wpTri P ops Q S l a w->wpAnyH P md ops Q S fuel listed a w:=by
 intro l
 induction l with
 | done=>
  intro fuel listed a w _ ho h
  have hr:Region.ready md ops listed=[]:=by simpa [triB] using ho
  exact wpAnyH_done hr h fuel
 | eff i p ih=>
  intro fuel listed a w hf ho h
  simp only [triN] at hf
  obtain ⟨fuel,rfl⟩:∃ f,fuel=f+1:=⟨fuel-1,by omega⟩
  simp only [triB,Bool.and_eq_true,beq_iff_eq] at ho
  obtain ⟨o,hoi,hl⟩:=h
  refine wpAnyH_all ho.1 (by simp) fun j hj=>?_
  obtain rfl:j=i:=by simpa using hj
  unfold wpOp
  simp only [hoi]
  have:=hl (fun a' w'=>S w'/\wpAnyH P md ops Q S fuel (listed.setIfInBounds j true) a' w') (fun a w hS h=>⟨hS,ih fuel _ a w (by omega) ho.2 h⟩)
  split at this
  ·rename_i hw
   simp only [hw,if_true]
   exact .inl this
  rename_i hw
  simp only [hw,if_false,Bool.false_eq_true]
  exact this
 | pure i p ih=>
  intro fuel listed a w hf ho h
  simp only [triN] at hf
  obtain ⟨fuel,rfl⟩:∃ f,fuel=f+1:=⟨fuel-1,by omega⟩
  simp only [triB,Bool.and_eq_true] at ho
  obtain ⟨o,v,hoi,hy,hS,hl⟩:=h
  exact wpAnyH_take hoi hs ho.1.1 ho.1.2 (fun c a w=>hQ _ _ c a w) hy hS (ih fuel _ _ w (by omega) ho.2 hl)
 | fork i j p q ih1 ih2=>
  intro fuel listed a w hf ho h
  simp only [triN] at hf
  obtain ⟨fuel,rfl⟩:∃ f,fuel=f+1:=⟨fuel-1,by omega⟩
  simp only [triB,Bool.and_eq_true,beq_iff_eq] at ho
  refine wpAnyH_all ho.1.1 (by simp) fun k hk=>?_
  have hk':k=i\/k=j:=by simpa using hk
  rcases hk' with rfl | rfl
  ·obtain ⟨o,hoi,hl⟩:=h.1
   unfold wpOp
   simp only [hoi]
   have:=hl (fun a' w'=>S w'/\wpAnyH P md ops Q S fuel (listed.setIfInBounds k true) a' w') (fun a w hS h=>⟨hS,ih1 fuel _ a w (by omega) ho.1.2 h⟩)
   split at this
   ·rename_i hw
    simp only [hw,if_true]
    exact .inl this
   rename_i hw
   simp only [hw,if_false,Bool.false_eq_true]
   exact this
  obtain ⟨o,hoi,hl⟩:=h.2
  unfold wpOp
  simp only [hoi]
  have:=hl (fun a' w'=>S w'/\wpAnyH P md ops Q S fuel (listed.setIfInBounds k true) a' w') (fun a w hS h=>⟨hS,ih2 fuel _ a w (by omega) ho.2 h⟩)
  split at this
  ·rename_i hw
   simp only [hw,if_true]
   exact .inl this
  rename_i hw
  simp only [hw,if_false,Bool.false_eq_true]
  exact this
 | tri i j k p q r ih1 ih2 ih3=>
  intro fuel listed a w hf ho h
  simp only [triN] at hf
  obtain ⟨fuel,rfl⟩:∃ f,fuel=f+1:=⟨fuel-1,by omega⟩
  simp only [triB,Bool.and_eq_true,beq_iff_eq] at ho
  refine wpAnyH_all ho.1.1.1 (by simp) fun m hm=>?_
  have hm':m=i\/m=j\/m=k:=by simpa using hm
  rcases hm' with rfl | rfl | rfl
  ·obtain ⟨o,hoi,hl⟩:=h.1
   unfold wpOp
   simp only [hoi]
   have:=hl (fun a' w'=>S w'/\wpAnyH P md ops Q S fuel (listed.setIfInBounds m true) a' w') (fun a w hS h=>⟨hS,ih1 fuel _ a w (by omega) ho.1.1.2 h⟩)
   split at this
   ·rename_i hw
    simp only [hw,if_true]
    exact .inl this
   rename_i hw
   simp only [hw,if_false,Bool.false_eq_true]
   exact this
  ·obtain ⟨o,hoi,hl⟩:=h.2.1
   unfold wpOp
   simp only [hoi]
   have:=hl (fun a' w'=>S w'/\wpAnyH P md ops Q S fuel (listed.setIfInBounds m true) a' w') (fun a w hS h=>⟨hS,ih2 fuel _ a w (by omega) ho.1.2 h⟩)
   split at this
   ·rename_i hw
    simp only [hw,if_true]
    exact .inl this
   rename_i hw
   simp only [hw,if_false,Bool.false_eq_true]
   exact this
  obtain ⟨o,hoi,hl⟩:=h.2.2
  unfold wpOp
  simp only [hoi]
  have:=hl (fun a' w'=>S w'/\wpAnyH P md ops Q S fuel (listed.setIfInBounds m true) a' w') (fun a w hS h=>⟨hS,ih3 fuel _ a w (by omega) ho.2 h⟩)
  split at this
  ·rename_i hw
   simp only [hw,if_true]
   exact .inl this
  rename_i hw
  simp only [hw,if_false,Bool.false_eq_true]
  exact this
theorem wp_region_tri (S:World->Prop) (l:PlanT) {id:Nat} {a:Act} {w:World} (hm:P.follows .mixedOrders=true) (hs:Region.noSelect ops=true)
  (ho:(Nat.ble (triN l) ops.size&&triB .any ops l (Array.replicate ops.size false))=true)
  (hQ:∀ d v c a w,Q (.panic c) (Act.put a d v) w->Q (.panic c) a w)
  (h:wpTri P ops Q S l a w.drew):(Code.region id ops true).wp P Q a w:=by
 simp only [Bool.and_eq_true,Nat.ble_eq] at ho
 exact wp_region_held hm (wpAnyH_of_tri hs hQ l ops.size _ a _ ho.1 ho.2 h)
theorem tri_join {i j k:Nat} {p q r:PlanT} {a:Act} {w:World} {Φ:Prop} (h1:RowKit.Hid Φ->wpTri P ops Q S (.eff i p) a w) (h2:RowKit.Hid Φ->wpTri P ops Q S (.eff j q) a w) (h3:RowKit.Hid Φ->wpTri P ops Q S (.eff k r) a w) (h:Φ):wpTri P ops Q S (.tri i j k p q r) a w:=tri_tri (h1 (Lib.hid h)) (h2 (Lib.hid h)) (h3 (Lib.hid h))
end
end Go.Proofs.YtjpjalmilfgckaaGreatDoor
