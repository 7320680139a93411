/- Part 8 of the walks, merged: each text under its own heading. Conditions: none of its own; each lemma states what it asks. -/
import Derived.Test.YtjpjalmilfgckaaGreatDoorIm7
import Derived.Deep.Fields
import Derived.WalkMore
set_option maxRecDepth 100000
set_option linter.unusedVariables false
set_option linter.unusedSimpArgs false
namespace Go.Proofs.YtjpjalmilfgckaaGreatDoor
open Go.RowKit Go.Deep Go.ChangeShapes Go.WideShapes
theorem flatMap_at {α β:Type} (f:α->List β) (s:Nat) (hs:∀ a,(f a).length=s):∀ (l:List α) (k j:Nat) (a:α),l[k]? = some a->j<s->(l.flatMap f)[k*s+j]? = (f a)[j]? := by
 intro l
 induction l with
 | nil=>intro k j a h _;simp at h
 | cons b l ih=>
  intro k j a h hj
  simp only [List.flatMap_cons]
  cases k with
  | zero=>
   simp only [List.getElem?_cons_zero,Option.some.injEq] at h
   subst h
   rw [Nat.zero_mul,Nat.zero_add,List.getElem?_append_left (by rw [hs];exact hj)]
  | succ k=>
   simp only [List.getElem?_cons_succ] at h
   rw [List.getElem?_append_right (by rw [hs,Nat.succ_mul];omega),hs,<-ih k j a h hj]
   congr 1
   rw [Nat.succ_mul]
   omega
theorem flatMap_length {α β:Type} (f:α->List β) (s:Nat) (hs:∀ a,(f a).length=s) (l:List α):(l.flatMap f).length=l.length*s:=by
 induction l with
 | nil=>simp
 | cons b l ih=>rw [List.flatMap_cons,List.length_append,ih,hs,List.length_cons,Nat.succ_mul,Nat.add_comm]
section
variable {H:Type} {enc:TypeId×Value->H} {P:Program} {w:World} {held:Bool} {sp:Nat->Bool} {base:Nat}
theorem struct_cells {ts:TypeId} {fs:Array Field} {fuel:Nat} {cs:List Value} {x:DataW H×List MemPlace} (hs:P.underlying ts=some (.struct fs)) (hone:oneCellFields P fs=true) (hC:P.cellsOf ts=fs.size)
  (h:DataW.trod enc P w base sp held fuel ts cs=some x) :
  ∃ n,cs.length=fs.size/\∀ (i:Nat) (f:Field) (v:Value),fs[i]? = some f->cs[i]? = some v->∃ y,DataW.trod enc P w base sp held n f.type [v]=some y:=by
 obtain ⟨xs,n,_,rfl,hcl,hxl,hf⟩:=DataW.trod_struct hs h
 refine ⟨n,by rw [hcl,hC],fun i f v hi hv=>?_⟩
 obtain ⟨ho,hc1⟩:=hone_of hone i f hi
 have g:=hf i f hi
 have hlt:i<fs.size:=(Array.getElem?_eq_some_iff.1 hi).1
 have hci:i<cs.length:=by rw [hcl,hC];exact hlt
 rw [ho,hc1,take1_drop cs i v hci] at g
 have hg:cs.getD i v=v:=by rw [List.getD_eq_getElem?_getD,hv];rfl
 rw [hg,List.getElem?_eq_getElem (by omega)] at g
 exact ⟨_,g⟩
theorem structs_of {α:Type} [Inhabited α] (size:Nat) (cells:α->List Value) (ok:α->Prop) (hpos:0<size) (hsz:∀ a,(cells a).length=size) {t e:TypeId} {a:Option Addr} {len cap:Nat} {d:DataW H} {p:List MemPlace}
  (ht:P.underlying t=some (.slice e)) (hc:P.cellsOf e=size)
  (hel:∀ n cs y,DataW.trod enc P w 0 (fun _=>true) held n e cs=some y->∃ x,cs=cells x/\ok x)
  (h:DataW.Trod enc P w 0 (fun _=>true) held t (.slice a len cap) d p) :
  ∃ xs:List α,Reads w w.heap.size size a len (xs.flatMap cells)/\len<=cap/\cap<=maxLen/\∀ x∈xs,ok x:=by
 obtain ⟨fuel,hf⟩:=h
 rcases open_slice ht hf with ⟨hcs,_⟩ | ⟨ad,l,c,m,n,D,Pl,hcs,hb,hl,hm,hmm,_,hx⟩
 ·simp [Value.cells] at hcs
  obtain ⟨rfl,rfl,rfl⟩:=hcs
  exact ⟨[],Reads.none_,Nat.le_refl _,by simp [maxLen],by simp⟩
 simp [Value.cells] at hcs
 obtain ⟨rfl,rfl,rfl⟩:=hcs
 simp only [if_true] at hmm
 subst hmm
 rw [hc] at hx
 obtain ⟨X,hX⟩:=choose_lt (α:=α) (p:=fun i x=>w.cells? 0 (ad.add (i*size)) size=some (cells x)/\ok x) (fun i hi=>by
  obtain ⟨cs',h1,h2⟩:=hx i hi
  obtain ⟨x,rfl,h3⟩:=hel _ _ _ h2
  exact ⟨x,h1,h3⟩)
 have hcell:∀ j u,((List.range len).map X |>.flatMap cells)[j]? = some u->w.cell? (ad.add j)=some u:=by
  intro j u hu
  have hjl:j<len*size:=by
   have:=(List.getElem?_eq_some_iff.1 hu).1
   rw [flatMap_length _ size hsz] at this
   simpa using this
  have hjd:=Nat.div_add_mod j size
  have hdl:j / size<len:=(Nat.div_lt_iff_lt_mul hpos).2 hjl
  obtain ⟨h1,_⟩:=hX (j / size) (by omega)
  obtain ⟨_,_,h3⟩:=World.cells?_some h1
  have h4:=h3 (j % size) (Nat.mod_lt _ hpos)
  rw [add_of_add,show j / size*size+j % size=j from by rw [Nat.mul_comm];exact hjd] at h4
  rw [h4,<-hu]
  have h5:=flatMap_at cells size hsz ((List.range len).map X) (j / size) (j % size) (X (j / size)) (by rw [List.getElem?_map,List.getElem?_range hdl];rfl) (Nat.mod_lt _ hpos)
  rw [show j / size*size+j % size=j from by rw [Nat.mul_comm];exact hjd] at h5
  exact h5.symm
 refine ⟨(List.range len).map X,⟨?_,fun hn=>⟨ad,rfl,?_,hcell⟩⟩,hl,hm,fun x hx=>?_⟩
 ·rw [flatMap_length _ size hsz]
  simp
 ·obtain ⟨h1,_⟩:=hX 0 (by omega)
  obtain ⟨_,hl0,h3⟩:=World.cells?_some h1
  have h4:=h3 0 hpos
  rw [List.getElem?_eq_getElem (by omega)] at h4
  have:=World.block_lt_of_cell? _ _ h4
  rwa [block_of_add,block_of_add] at this
 obtain ⟨i,hi,rfl⟩:=List.mem_map.1 hx
 exact (hX i (by have:=List.mem_range.1 hi;omega)).2
end
end Go.Proofs.YtjpjalmilfgckaaGreatDoor
namespace Go.Proofs.YtjpjalmilfgckaaGreatDoor
open Go.RowKit
theorem bool_info:(Tryz.prog.info? 4).map (fun i=>(i.zero,i.size,i.bytes))=some (some (.bool false),1,1):=by kernel_rfl
theorem need_cast (n:Nat):((n:Int)+8-1) / 8=((need n:Nat):Int):=by unfold need;omega
set_option maxHeartbeats 400000 in
theorem need_any (n:Nat) (w:World) (hn:n<=4611686018427387904) :
  Calls Tryz.prog 162 #[.int .i64 (n:Int)] w fun e w'=>e=.returned (.int .i64 ((need n:Nat):Int))/\w=w':=by
 go_enter Tryz.func162,Tryz.ntmps162
 go_wp2
 go_ret
 exact ⟨by rw [<-need_cast];rfl,rfl⟩
set_option maxHeartbeats 400000 in
theorem msize_any (n:Int) (w:World) (h1 : -9223372036854775808<=n) (h2:n<=9223372036854775807) :
  Calls Tryz.prog 242 #[.int .i64 n] w fun e w'=>e=.returned (.int .i64 ((sizeL n:Nat):Int))/\w=w':=by
 by_cases h:n<0\/1048576<n
 ·have hs:sizeL n=0:=by unfold sizeL;rw [if_pos h]
  rw [hs]
  rcases h with h | h
  all_goals
   go_enter Tryz.func242,Tryz.ntmps242
   go_wp2
   go_ret
   exact ⟨rfl,rfl⟩
 have hs:sizeL n=need n.toNat:=by unfold sizeL;rw [if_neg h]
 rw [hs]
 obtain ⟨m,rfl⟩:=Int.eq_ofNat_of_zero_le (by omega:0<=n)
 rw [Int.toNat_natCast]
 clear hs h1 h2
 have hm:m<=1048576:=by omega
 clear h
 go_enter Tryz.func242,Tryz.ntmps242
 go_wp2_with fail
 with_reducible refine (need_any m _ (by omega)).mono ?_
 rintro e w' ⟨rfl,rfl⟩
 go_wp2
 go_ret
 exact ⟨rfl,rfl⟩
theorem bit_or (x s:Nat) (hx:x<2 ^ s) (hs:s<8):bits .or .u8 (x:Int) (2 ^ s)=((x+2 ^ s:Nat):Int):=by
 have h2:(2:Nat) ^ s<=2 ^ 7:=Nat.pow_le_pow_right (by omega) (by omega)
 have e:((2:Int) ^ s)=((2 ^ s:Nat):Int):=by rw [Int.natCast_pow];rfl
 rw [e,u8_or_nat _ _ (by omega) (by omega)]
 have:=nat_join s (2 ^ s) x (Nat.mod_self _) hx
 rw [Nat.or_comm,this,Nat.add_comm]
set_option maxHeartbeats 1000000 in
theorem mpack_any (A:Option Addr) (l c:Nat) (xs:List Bool) (w:World) (hr:Reads w w.heap.size 1 A l (bls xs)) (hl:l<=c) (hc:c<=maxLen) (hb:l<=1099511627776) :
  Calls Tryz.prog 106 #[.slice A l c] w fun e w'=>∃ A' c',e=.returned (.slice A' (packL xs).length c')/\(packL xs).length<=c'/\c'<=maxLen /\
   w'.ownsRow w.heap.size 5 1 (.slice A' (packL xs).length c') (packL xs).length (u8s (packL xs))/\Below w.heap.size w w':=by
 obtain ⟨i0,hi0,hz0,hz1,hz2⟩:=info_parts u8_info
 unfold maxLen at hc
 have hlen:=blen hr
 have Hlen:=Lib.hid hlen
 have hN:need l<=1099511627776:=by unfold need;omega
 have hmk:=fun W:World=>run_make (P:=Tryz.prog) W 35 5 i0 (.int .u8 0) Tryz.underlying35 hi0 hz0 .i64 .i64 ((need l:Nat):Int) ((need l:Nat):Int) (by omega) (by omega) (by rw [hz2];omega) (by omega)
 simp only [Int.toNat_natCast,hz1,Nat.mul_one] at hmk
 clear hlen
 go_enter Tryz.func106,Tryz.ntmps106
 go_wp2_with fail
 with_reducible refine (need_any l _ (by omega)).mono ?_
 rintro e w' ⟨rfl,rfl⟩
 go_wp2
 go_loopw [12] (fun v wr=>∃ i:Nat,i<=l/\v=.int .i64 (i:Int)/\Blk wr w.heap.size 5 (u8s (packF (need l) (xs.take i))).toArray/\Below w.heap.size w wr) (fun v _=>l-(intOf v).toNat)
 case atStart=>
  refine ⟨0,Nat.zero_le _,rfl,?_,(Below.refl _ _).alloc (Nat.le_refl _) _⟩
  have e:madeCells #[Value.int .u8 0] (need l)=(u8s (packF (need l) (xs.take 0))).toArray:=by
   apply Array.ext'
   rw [toList_madeCells_one,packF_none]
   simp [u8s]
  rw [<-e]
  exact Blk.new _ _ _
 case round=>
  obtain ⟨i,hi,rfl,hblk,hB⟩:=hrel
  by_cases hlt:i<l
  ·obtain ⟨ad,v,rfl,hbk,hx,hcell⟩:=hr.at_ hlt
   rw [<-hB.cell (p:=ad.add i) (by rw [block_of_add];exact hbk)] at hcell
   obtain ⟨b,hb',rfl⟩:=bls_get _ _ _ hx
   have hf:i / 8<need l:=by unfold need;omega
   clear hx hbk
   cases b with
   | false=>
    have hs:=Lib.hid (packF_false (need l) xs i hb' hf)
    clear hb'
    go_wp2
    go_roundw
    case rel=>exact ⟨i+1,by omega,by go_num,by rw [hs.out];exact hblk,hB⟩
    case measure=>simp [intOf];omega
   | true=>
    obtain ⟨s1,s2,s3⟩:=packF_step (need l) xs i true hb' hf
    generalize byteOf (chunk xs i (i / 8))=x at s1 s2 s3
    have hx8:x<256:=by
     have:2 ^ (i % 8)<=2 ^ 8:=Nat.pow_le_pow_right (by omega) (by omega)
     omega
    have hold:wr.cell? ⟨w.heap.size,i / 8,none⟩=some (.int .u8 (x:Int)):=by
     rw [hblk.cell]
     simp [u8s,s3,Nat.mod_eq_of_lt hx8]
    have hfz:=hblk.frozen (i / 8)
    have S1:=Lib.hid s1
    have S2:=Lib.hid s2
    clear s1 s2 s3 hb'
    go_wp2
    go_region
    have hv:bits .or .u8 (x:Int) ((2:Int) ^ (i % 8) % 256)=((UInt8.ofNat (x+2 ^ (i % 8))).toNat:Int):=by
     have h2:(2:Nat) ^ (i % 8)<=2 ^ 7:=Nat.pow_le_pow_right (by omega) (by omega)
     have e:((2:Int) ^ (i % 8)) % 256=(2:Int) ^ (i % 8):=by
      have e:((2:Int) ^ (i % 8))=((2 ^ (i % 8):Nat):Int):=by rw [Int.natCast_pow];rfl
      rw [e]
      generalize 2 ^ (i % 8)=q at h2 ⊢
      omega
     have:=S2.out
     rw [e,bit_or x (i % 8) S2.out (by omega),ofNat_toNat' _ (by omega)]
    rw [hv]
    have hblk2:=(hblk.set_ (i / 8) (.int .u8 ((UInt8.ofNat (x+2 ^ (i % 8))).toNat:Int))).drew
    have hB2:=(bset (p:=⟨w.heap.size,i / 8,none⟩) hB (Nat.le_refl _) (.int .u8 ((UInt8.ofNat (x+2 ^ (i % 8))).toNat:Int))).drew
    have hs1:=S1.out
    rw [if_pos trivial] at hs1
    rw [List.setIfInBounds_toArray,u8s_set,<-hs1] at hblk2
    clear hs1 hblk hB
    go_wp2
    go_roundw
    case rel=>exact ⟨i+1,by omega,by go_num,hblk2,hB2⟩
    case measure=>simp [intOf];omega
  go_wp2
  go_ret
  have hil:xs.take i=xs:=List.take_of_length_le (by rw [Hlen.out];omega)
  rw [hil] at hblk
  have hpl:(packL xs).length=need l:=by rw [packL_length,Hlen.out]
  have hpe:packF (need l) xs=packL xs:=by rw [packL,Hlen.out]
  rw [hpl]
  rw [hpe] at hblk
  exact ⟨some ⟨w.heap.size,0,none⟩,need l,rfl,Nat.le_refl _,by simp only [maxLen];omega,hblk.own (Nat.le_refl _) rfl (by simp [hpl]) (by simp only [maxLen];omega),hB⟩
set_option maxHeartbeats 1000000 in
theorem mcount_any (A:Option Addr) (l c:Nat) (xs:List Bool) (w:World) (hr:Reads w w.heap.size 1 A l (bls xs)) (hl:l<=c) (hc:c<=maxLen) :
  Calls Tryz.prog 156 #[.slice A l c] w fun e w'=>e=.returned (.int .i64 ((countL xs:Nat):Int))/\w=w':=by
 unfold maxLen at hc
 have Hlen:=Lib.hid (blen hr)
 go_enter Tryz.func156,Tryz.ntmps156
 go_wp2
 go_loop [2,7] (fun u v=>∃ i k:Nat,i<=l/\v=.int .i64 (i:Int)/\u=.int .i64 (k:Int)/\k<=i/\Hid (k=countL (xs.take i))) (fun _ v=>l-(intOf v).toNat)
 case atStart=>exact ⟨0,0,Nat.zero_le _,rfl,rfl,Nat.le_refl _,by show 0=countL (xs.take 0);simp [countL]⟩
 case round=>
  obtain ⟨i,k,hi,rfl,rfl,hk,Hk⟩:=hrel
  by_cases hlt:i<l
  ·obtain ⟨ad,v,rfl,hbk,hx,hcell⟩:=hr.at_ hlt
   obtain ⟨b,hb',rfl⟩:=bls_get _ _ _ hx
   have hs:=count_step xs i b hb'
   rw [<-Hk.out] at hs
   have Hs:=Lib.hid hs
   clear hx hb' hs hbk
   cases b
   ·go_wp2
    go_round
    case rel=>exact ⟨i+1,k,by omega,by go_num,rfl,by omega,by show _=_;rw [Hs.out];simp⟩
    case measure=>simp [intOf];omega
   go_wp2
   go_round
   case rel=>exact ⟨i+1,k+1,by omega,by go_num,by go_num,by omega,by show _=_;rw [Hs.out];simp⟩
   case measure=>simp [intOf];omega
  go_wp2
  go_ret
  have hil:xs.take i=xs:=List.take_of_length_le (by rw [Hlen.out];omega)
  exact ⟨by have:=Hk.out;rw [hil] at this;rw [<-this];rfl,rfl⟩
end Go.Proofs.YtjpjalmilfgckaaGreatDoor
namespace Go.Proofs.YtjpjalmilfgckaaGreatDoor
open Go.RowKit
theorem bit_of (b k:Nat) (hb:b<256):(bits .and .u8 ((b:Int) / 2 ^ k) 1==1)=(b / 2 ^ k % 2==1):=by
 have e:((b:Int) / 2 ^ k)=((b / 2 ^ k:Nat):Int):=by rw [Int.natCast_ediv,Int.natCast_pow];rfl
 have hle:b / 2 ^ k<=b:=Nat.div_le_self _ _
 rw [e,show (1:Int)=((1:Nat):Int) from rfl,u8_and_nat _ _ (by omega) (by omega),nat_mask1]
 rw [Bool.eq_iff_iff]
 simp
 omega
def Unpacked (r:List Bool×Nat×Nat) (w:World) (e:Ending) (w':World):Prop:=
 ∃ A c,e=.returned (.tuple #[.slice A r.1.length c,.int .i64 (r.2.1:Int),.int .i64 (r.2.2:Int)])/\r.1.length<=c/\c<=maxLen/\Reads w' w'.heap.size 1 A r.1.length (bls r.1)/\Below w.heap.size w w'
theorem munpack_err (er:Nat) (w:World):Unpacked ([],0,er) w (.returned (.tuple #[.slice none 0 0,.int .i64 0,.int .i64 (er:Int)])) w:=
 ⟨none,0,rfl,Nat.le_refl _,by simp [maxLen],Reads.none_,Below.refl _ _⟩
set_option maxHeartbeats 400000 in
theorem clip_any (A:Option Addr) (l c:Nat) (w:World) (hl:l<=c) (hc:c<=maxLen) :
  Calls Tryz.prog 243 #[.slice A l c] w fun e w'=>e=.returned (.slice A l l)/\w=w':=by
 unfold maxLen at hc
 go_enter Tryz.func243,Tryz.ntmps243
 go_wp2
 go_ret
 exact ⟨rfl,rfl⟩
set_option maxHeartbeats 1000000 in
theorem munpack_any (A:Option Addr) (l c:Nat) (xs:List UInt8) (n:Int) (w:World) (hr:Reads w w.heap.size 1 A l (u8s xs)) (hl:l<=c) (hc:c<=maxLen) (h1 : -9223372036854775808<=n) (h2:n<=9223372036854775807) :
  Calls Tryz.prog 194 #[.slice A l c,.int .i64 n] w (Unpacked (unpackL xs n) w):=by
 obtain ⟨i0,hi0,hz0,hz1,hz2⟩:=info_parts bool_info
 unfold maxLen at hc
 have Hlen:=Lib.hid (reads_len hr)
 have hsz:=fun w=>msize_any n w h1 h2
 have Hsz:=Lib.hid hsz
 clear hsz
 by_cases hn:n<0\/1048576<n
 ·have hu:unpackL xs n=([],0,6):=by unfold unpackL;rw [if_pos hn]
  rw [hu]
  clear hu h1 h2
  rcases hn with hn | hn
  all_goals
   go_enter Tryz.func194,Tryz.ntmps194
   go_wp2
   go_step3
   go_wp2_with fail
   refine (Hsz.out _).mono ?_
   rintro e w' ⟨rfl,rfl⟩
   go_wp2
   rw [Exit.noGoto_ret]
   go_ret3
   exact munpack_err 6 w
 obtain ⟨m,rfl⟩:=Int.eq_ofNat_of_zero_le (by omega:0<=n)
 have hm:m<=1048576:=by omega
 have hu:unpackL xs (m:Int)=unpackN xs m:=by unfold unpackL;rw [if_neg hn,Int.toNat_natCast]
 have hss:sizeL (m:Int)=need m:=by unfold sizeL;rw [if_neg hn,Int.toNat_natCast]
 rw [hu]
 rw [hss] at Hsz
 clear hu hss h1 h2 hn
 have hnm:need m<=131072:=by unfold need;omega
 by_cases hshort:l<need m
 ·have hu:unpackN xs m=([],0,3):=by unfold unpackN;rw [if_pos (by rw [Hlen.out];exact hshort)]
  rw [hu]
  clear hu
  go_enter Tryz.func194,Tryz.ntmps194
  go_wp2
  go_step3
  go_wp2_with fail
  refine (Hsz.out _).mono ?_
  rintro e w' ⟨rfl,rfl⟩
  go_wp2
  rw [Exit.noGoto_ret]
  go_ret3
  exact munpack_err 3 w
 go_enter Tryz.func194,Tryz.ntmps194
 go_wp2
 go_step3
 go_wp2_with fail
 refine (Hsz.out _).mono ?_
 rintro e w' ⟨rfl,rfl⟩
 go_wp2
 go_step3
 go_wp2
 go_loopw [4,6,25] (fun u x v wr=>∃ (i L:Nat) (A1:Option Addr) (c1:Nat),i<=need m/\x=.int .i64 0/\v=.int .i64 (i:Int)/\u=.slice A1 L c1/\Hid (L=min (8*i) m) /\
  wr.ownsRow w.heap.size 4 1 (.slice A1 L c1) L (bls ((allBits xs).take L))/\Hid (Clear xs m (8*i))/\Below w.heap.size w wr) (fun _ _ v _=>need m-(intOf v).toNat)
 case atStart=>exact ⟨0,0,none,0,Nat.zero_le _,rfl,rfl,rfl,by show 0=min (8*0) m;omega,World.ownsRow_nil _ _ _ _,clear_low _ _ _ (by omega),Below.refl _ _⟩
 case round=>
  obtain ⟨i,L,A1,c1,hi,rfl,rfl,rfl,HL,hown,Hcl,hB⟩:=hrel
  by_cases hlt:i<need m
  ·obtain ⟨ad,v,rfl,hbk,hx,hcell0⟩:=hr.at_ (k:=i) (by omega)
   obtain ⟨b,hb',rfl⟩:=u8s_get _ _ _ hx
   have hb256:b.toNat<256:=b.toNat_lt
   clear hx
   have db:decide ((i:Int)<(need m:Int))=true:=by simp;omega
   go_wp2
   go_loopw [4,6,28] (fun u x v wr=>∃ (k L:Nat) (A1:Option Addr) (c1:Nat),k<=8/\x=.int .i64 0/\v=.int .i64 (k:Int)/\u=.slice A1 L c1/\Hid (L=min (8*i+k) m) /\
    wr.ownsRow w.heap.size 4 1 (.slice A1 L c1) L (bls ((allBits xs).take L))/\Hid (Clear xs m (8*i+k))/\Below w.heap.size w wr) (fun _ _ v _=>8-(intOf v).toNat)
   case atStart=>exact ⟨0,L,A1,c1,Nat.zero_le _,rfl,rfl,rfl,HL,hown,Hcl,hB⟩
   case round=>
    clear HL hown Hcl hB
    obtain ⟨k,L,A1,c1,hk,rfl,rfl,rfl,HL,hown,Hcl,hB⟩:=hrel
    by_cases hlt2:k<8
    ·have hcell:=hcell0
     rw [<-hB.cell (p:=ad.add i) (by rw [block_of_add];exact hbk)] at hcell
     have hbit:=allBits_get xs i k b hb' hlt2
     have hbv:=bit_of b.toNat k hb256
     generalize (b.toNat / 2 ^ k % 2==1)=bv at hbit hbv
     have hbase:=hB.size
     by_cases htm:8*i+k<m
     ·obtain rfl:L=8*i+k:=by have:=HL.out;omega
      have hnx:=take_next _ _ _ hbit
      have Hnx:=Lib.hid hnx
      have hs1:8*i+k+1<=maxLen:=by simp only [maxLen];omega
      have hs2:(8*i+k+1)*1<=70368744177664:=by omega
      clear hbit hnx
      go_wp2_with (at_builtin
                   refine wpList_append_any _ rfl (.tmp 44) (.tmp 46) 145 rfl w.heap.size 4 i0 (.bool false) 1 1 Tryz.underlying145 hi0 hz0 hz1 hz2 rfl (by decide) A1 _ c1 _ rfl (hown.alloc _) _ 1 1 _ rfl (reads_new _ _ _) (one_bool _) hs1 hs2 (by simp;omega) ?_
                   intro A2 c2 w2 hown2 hb2 hg2 hc2 hm2
                   rw [show [Value.bool bv]=bls [bv] from rfl,<-bls_append,<-Hnx.out] at hown2)
      go_roundw
      case rel=>exact ⟨k+1,8*i+k+1,A2,c2,by omega,rfl,by go_num,rfl,by show 8*i+k+1=min (8*i+(k+1)) m;omega,hown2,clear_low _ _ _ (by omega),(hB.alloc hbase _).trans hb2⟩
      case measure=>simp [intOf];omega
     obtain rfl:L=m:=by have:=HL.out;omega
     have heq:((L:Int)==(L:Int))=true:=by simp
     cases bv
     ·have hcl:=clear_next xs L (8*i+k) Hcl.out hbit
      clear hbit
      go_wp2
      go_roundw
      case rel=>exact ⟨k+1,L,A1,c1,by omega,rfl,by go_num,rfl,by show L=min (8*i+(k+1)) L;omega,hown,hcl,hB⟩
      case measure=>simp [intOf];omega
     have hbad:=unpack_bad xs L (8*i+k) (by rw [Hlen.out];omega) (by omega) (by omega) hbit
     have Hbad:=Lib.hid hbad
     clear hbit hbad
     go_wp2
     rw [Exit.noGoto_ret]
     go_ret3
     rw [Hbad.out]
     exact ⟨none,0,rfl,Nat.le_refl _,by simp [maxLen],Reads.none_,hB⟩
    have hk8:k=8:=by omega
    go_wp2
    go_roundw
    case rel=>
     subst hk8
     exact ⟨i+1,L,A1,c1,by omega,rfl,by go_num,rfl,HL,hown,Hcl,hB⟩
    case measure=>simp [intOf];omega
  have hL:L=m:=by have:=HL.out;have:=need_le m;omega
  subst hL
  obtain ⟨A',c',hv,h1,h2⟩:=own_shape hown
  injection hv with hA hn hc'
  subst hA hc'
  have hie:i=need L:=by omega
  subst hie
  go_wp2_with fail
  with_reducible refine (clip_any _ _ _ _ h1 h2).mono ?_
  rintro e w' ⟨rfl,rfl⟩
  go_wp2
  rw [Exit.noGoto_ret]
  go_ret3
  rw [unpack_good xs L (by rw [Hlen.out];omega) Hcl.out]
  have hlen:((allBits xs).take L).length=L:=by have:=hown.1;simpa using this
  refine ⟨A1,L,by rw [hlen];rfl,by rw [hlen];exact Nat.le_refl _,by simp only [maxLen];omega,by rw [hlen];exact own_reads hown,hB⟩
end Go.Proofs.YtjpjalmilfgckaaGreatDoor
namespace Go.Proofs.YtjpjalmilfgckaaGreatDoor
open Go.RowKit
theorem addc_zero (a:Addr):a.add 0=a:=by unfold Addr.add;simp
theorem addc_pos (a:Addr) (j:Nat) (h:0<j):a.add j=⟨a.block,a.off+j,none⟩:=by unfold Addr.add;rw [if_neg (by simpa using Nat.ne_of_gt h)]
def cls (l:List Cl):List Value:=l.flatMap fun c=>[.bool c.1,.int .i64 c.2.1,.string c.2.2]
def ClOk (l:List Cl):Prop:=∀ c∈l,-9223372036854775808<=c.2.1/\c.2.1<=9223372036854775807/\c.2.2.size<=maxLen
theorem cls_len {w:World} {B n:Nat} {A:Option Addr} {l:List Cl} (h:Reads w B 3 A n (cls l)):l.length=n:=by
 have:=h.1
 rw [cls,flatMap_length _ 3 (fun _=>rfl)] at this
 omega
theorem cls_at {w:World} {B n k:Nat} {A:Option Addr} {l:List Cl} (h:Reads w B 3 A n (cls l)) (hk:k<n):∃ ad u m s,A=some ad/\ad.block<B/\l[k]? = some (u,m,s) /\
  w.cell? (ad.add (k*3))=some (.bool u)/\w.cell? ⟨(ad.add (k*3)).block,(ad.add (k*3)).off+1,none⟩=some (.int .i64 m)/\w.cell? ⟨(ad.add (k*3)).block,(ad.add (k*3)).off+2,none⟩=some (.string s):=by
 have hl:=cls_len h
 obtain ⟨ad,e,hb,hc⟩:=h.2 (by omega)
 have key:∀ j v,[Value.bool l[k].1,.int .i64 l[k].2.1,.string l[k].2.2][j]? = some v->w.cell? ((ad.add (k*3)).add j)=some v:=fun j v hv=>by
  have hj:j<3:=(List.getElem?_eq_some_iff.1 hv).1
  rw [add_of_add]
  exact hc _ _ (by rw [cls,flatMap_at _ 3 (fun _=>rfl) l k j l[k] (List.getElem?_eq_getElem (by omega)) hj];exact hv)
 refine ⟨ad,l[k].1,l[k].2.1,l[k].2.2,e,hb,List.getElem?_eq_getElem (by omega),?_,?_,?_⟩
 ·have:=key 0 _ rfl
  rwa [addc_zero] at this
 ·have:=key 1 _ rfl
  rwa [addc_pos _ _ (by decide)] at this
 have:=key 2 _ rfl
 rwa [addc_pos _ _ (by decide)] at this
set_option maxHeartbeats 1000000 in
theorem mappedB_any (f:FuncId) (g:Cl->Bool) (A:Option Addr) (n c:Nat) (l:List Cl) (w:World) (hr:Reads w w.heap.size 3 A n (cls l)) (hn:n<=1099511627776)
  (hin:∀ args w',(callFunc f args).run Tryz.prog w'=.ok (.enter f args) w')
  (hcall:∀ (u:Bool) (m:Int) (s:ByteArray) (w:World),Calls Tryz.prog f #[.agg #[.bool u,.int .i64 m,.string s]] w fun e w'=>e=.returned (.bool (g (u,m,s)))/\Below w.heap.size w w') :
  Calls Tryz.prog 107 #[.slice A n c,.func (.func f) #[] #[]] w fun e w'=>∃ A' c',e=.returned (.slice A' n c')/\n<=c'/\c'<=maxLen/\w'.ownsRow w.heap.size 4 1 (.slice A' n c') n (bls (l.map g))/\Below w.heap.size w w':=by
 obtain ⟨i0,hi0,hz0,hz1,hz2⟩:=info_parts bool_info
 have Hln:=Lib.hid (cls_len hr)
 have Hr:=Lib.hid hr
 have Hcall:=Lib.hid hcall
 clear hr hcall
 go_enter Tryz.func107,Tryz.ntmps107
 go_wp2
 go_loopw [4,9] (fun v i wr=>∃ (k:Nat) (A1:Option Addr) (c1:Nat),k<=n/\i=.int .i64 (k:Int)/\v=.slice A1 k c1/\k<=c1/\c1<=maxLen/\wr.ownsRow w.heap.size 4 1 (.slice A1 k c1) k (bls ((l.take k).map g))/\Below w.heap.size w wr) (fun _ i _=>n-(intOf i).toNat)
 case atStart=>exact ⟨0,none,0,Nat.zero_le _,rfl,rfl,Nat.le_refl _,by decide,World.ownsRow_nil _ _ _ _,Below.refl _ _⟩
 case round=>
  obtain ⟨k,A1,c1,hk,rfl,rfl,hkc,hcm,hown,hB⟩:=hrel
  have Hown:=Lib.hid hown
  have HB:=Lib.hid hB
  clear hown hB
  by_cases hlt:k<n
  ·obtain ⟨ad,u,m,s,rfl,hbk,hx,h0,h1,h2⟩:=cls_at (Hr.out.below HB.out) hlt
   have hbase:=HB.out.size
   have hs1:k+1<=maxLen:=by simp only [maxLen];omega
   have hs2:(k+1)*1<=70368744177664:=by omega
   have Hx:=Lib.hid hx
   clear hx hbk
   go_wp2_with fail
   with_reducible refine (Hcall.out u m s _).mono ?_
   rintro e w1 ⟨rfl,hb1⟩
   have hown1:=own_below (Hown.out.alloc (.cells #[.bool u,.int .i64 m,.string s] 23)) hb1
   have HB1:=Lib.hid ((HB.out.alloc hbase (.cells #[.bool u,.int .i64 m,.string s] 23)).trans (hb1.mono (by have:=World.size_alloc (w:=wr) (o:=.cells #[.bool u,.int .i64 m,.string s] 23);omega)))
   have hbase1:=HB1.out.size
   clear hb1
   go_wp2_with (at_builtin
                refine wpList_append_any _ rfl (.tmp 13) (.tmp 17) 145 rfl w.heap.size 4 i0 (.bool false) 1 1 Tryz.underlying145 hi0 hz0 hz1 hz2 rfl (by decide) A1 k c1 _ rfl (hown1.alloc _) _ 1 1 [.bool (g (u,m,s))] rfl (reads_new _ _ _) (one_bool _) hs1 hs2 (by simp;omega) ?_
                intro A5 c5 w5 hown5 hb5 hg5 hc5 hm5)
   rw [show bls ((l.take k).map g)++[.bool (g (u,m,s))]=bls ((l.take (k+1)).map g) by rw [List.take_add_one,Hx.out];simp [bls]] at hown5
   go_roundw
   case rel=>exact ⟨k+1,A5,c5,by omega,by go_num,rfl,hc5,hm5,hown5,(HB1.out.alloc hbase1 _).trans hb5⟩
   case measure=>simp [intOf];omega
  obtain rfl:k=n:=by omega
  have hmap:(l.take k).map g=l.map g:=by rw [List.take_of_length_le (by rw [Hln.out];exact Nat.le_refl _)]
  have Hmap:=Lib.hid hmap
  clear hmap
  go_wp2
  go_ret
  exact ⟨A1,c1,rfl,hkc,hcm,by rw [<-Hmap.out];exact Hown.out,HB.out⟩
set_option maxHeartbeats 1000000 in
theorem mappedS_any (f:FuncId) (g:Cl->ByteArray) (A:Option Addr) (n c:Nat) (l:List Cl) (w:World) (hr:Reads w w.heap.size 3 A n (cls l)) (hn:n<=1099511627776)
  (hin:∀ args w',(callFunc f args).run Tryz.prog w'=.ok (.enter f args) w')
  (hcall:∀ (u:Bool) (m:Int) (s:ByteArray) (w:World),Calls Tryz.prog f #[.agg #[.bool u,.int .i64 m,.string s]] w fun e w'=>e=.returned (.string (g (u,m,s)))/\Below w.heap.size w w') :
  Calls Tryz.prog 221 #[.slice A n c,.func (.func f) #[] #[]] w fun e w'=>∃ A' c',e=.returned (.slice A' n c')/\n<=c'/\c'<=maxLen/\w'.ownsRow w.heap.size 9 1 (.slice A' n c') n (txs (l.map g))/\Below w.heap.size w w':=by
 obtain ⟨i0,hi0,hz0,hz1,hz2⟩:=info_parts text_info
 have Hln:=Lib.hid (cls_len hr)
 have Hr:=Lib.hid hr
 have Hcall:=Lib.hid hcall
 clear hr hcall
 go_enter Tryz.func221,Tryz.ntmps221
 go_wp2
 go_loopw [4,9] (fun v i wr=>∃ (k:Nat) (A1:Option Addr) (c1:Nat),k<=n/\i=.int .i64 (k:Int)/\v=.slice A1 k c1/\k<=c1/\c1<=maxLen/\wr.ownsRow w.heap.size 9 1 (.slice A1 k c1) k (txs ((l.take k).map g))/\Below w.heap.size w wr) (fun _ i _=>n-(intOf i).toNat)
 case atStart=>exact ⟨0,none,0,Nat.zero_le _,rfl,rfl,Nat.le_refl _,by decide,World.ownsRow_nil _ _ _ _,Below.refl _ _⟩
 case round=>
  obtain ⟨k,A1,c1,hk,rfl,rfl,hkc,hcm,hown,hB⟩:=hrel
  have Hown:=Lib.hid hown
  have HB:=Lib.hid hB
  clear hown hB
  by_cases hlt:k<n
  ·obtain ⟨ad,u,m,s,rfl,hbk,hx,h0,h1,h2⟩:=cls_at (Hr.out.below HB.out) hlt
   have hbase:=HB.out.size
   have hs1:k+1<=maxLen:=by simp only [maxLen];omega
   have hs2:(k+1)*16<=70368744177664:=by omega
   have Hx:=Lib.hid hx
   clear hx hbk
   go_wp2_with fail
   with_reducible refine (Hcall.out u m s _).mono ?_
   rintro e w1 ⟨rfl,hb1⟩
   have hown1:=own_below (Hown.out.alloc (.cells #[.bool u,.int .i64 m,.string s] 23)) hb1
   have HB1:=Lib.hid ((HB.out.alloc hbase (.cells #[.bool u,.int .i64 m,.string s] 23)).trans (hb1.mono (by have:=World.size_alloc (w:=wr) (o:=.cells #[.bool u,.int .i64 m,.string s] 23);omega)))
   have hbase1:=HB1.out.size
   clear hb1
   go_wp2_with (at_builtin
                refine wpList_append_any _ rfl (.tmp 13) (.tmp 17) 240 rfl w.heap.size 9 i0 (.string ⟨#[]⟩) 1 16 Tryz.underlying240 hi0 hz0 hz1 hz2 rfl (by decide) A1 k c1 _ rfl (hown1.alloc _) _ 1 1 [.string (g (u,m,s))] rfl (reads_new _ _ _) (one_text _) hs1 hs2 (by simp;omega) ?_
                intro A5 c5 w5 hown5 hb5 hg5 hc5 hm5)
   rw [show txs ((l.take k).map g)++[.string (g (u,m,s))]=txs ((l.take (k+1)).map g) by rw [List.take_add_one,Hx.out];simp [txs]] at hown5
   go_roundw
   case rel=>exact ⟨k+1,A5,c5,by omega,by go_num,rfl,hc5,hm5,hown5,(HB1.out.alloc hbase1 _).trans hb5⟩
   case measure=>simp [intOf];omega
  obtain rfl:k=n:=by omega
  have hmap:(l.take k).map g=l.map g:=by rw [List.take_of_length_le (by rw [Hln.out];exact Nat.le_refl _)]
  have Hmap:=Lib.hid hmap
  clear hmap
  go_wp2
  go_ret
  exact ⟨A1,c1,rfl,hkc,hcm,by rw [<-Hmap.out];exact Hown.out,HB.out⟩
theorem there_any (u:Bool) (m:Int) (s:ByteArray) (w:World):Calls Tryz.prog 108 #[.agg #[.bool u,.int .i64 m,.string s]] w fun e w'=>e=.returned (.bool (!u))/\Below w.heap.size w w':=by
 go_enter Tryz.func108,Tryz.ntmps108
 go_wp2
 go_ret
 exact ⟨rfl,(Below.refl _ _).alloc (Nat.le_refl _) _⟩
theorem isone_any (u:Bool) (m:Int) (s:ByteArray) (w:World):Calls Tryz.prog 219 #[.agg #[.bool u,.int .i64 m,.string s]] w fun e w'=>e=.returned (.bool (m==1))/\Below w.heap.size w w':=by
 go_enter Tryz.func219,Tryz.ntmps219
 go_wp2
 go_ret
 exact ⟨rfl,(Below.refl _ _).alloc (Nat.le_refl _) _⟩
theorem itstext_any (u:Bool) (m:Int) (s:ByteArray) (w:World):Calls Tryz.prog 222 #[.agg #[.bool u,.int .i64 m,.string s]] w fun e w'=>e=.returned (.string s)/\Below w.heap.size w w':=by
 go_enter Tryz.func222,Tryz.ntmps222
 go_wp2
 go_ret
 exact ⟨rfl,(Below.refl _ _).alloc (Nat.le_refl _) _⟩
theorem mapThere (A:Option Addr) (n c:Nat) (l:List Cl) (w:World) (hr:Reads w w.heap.size 3 A n (cls l)) (hn:n<=1099511627776) :
  Calls Tryz.prog 107 #[.slice A n c,.func (.func 108) #[] #[]] w fun e w'=>∃ A' c',e=.returned (.slice A' n c')/\n<=c'/\c'<=maxLen/\w'.ownsRow w.heap.size 4 1 (.slice A' n c') n (bls (l.map fun c => !c.1))/\Below w.heap.size w w':=
 mappedB_any 108 (fun c => !c.1) A n c l w hr hn (fun args w'=>callFunc_in Tryz.func108 (by kernel_rfl) (by kernel_rfl) args w') there_any
theorem mapOnes (A:Option Addr) (n c:Nat) (l:List Cl) (w:World) (hr:Reads w w.heap.size 3 A n (cls l)) (hn:n<=1099511627776) :
  Calls Tryz.prog 107 #[.slice A n c,.func (.func 219) #[] #[]] w fun e w'=>∃ A' c',e=.returned (.slice A' n c')/\n<=c'/\c'<=maxLen/\w'.ownsRow w.heap.size 4 1 (.slice A' n c') n (bls (l.map fun c=>c.2.1==1))/\Below w.heap.size w w':=
 mappedB_any 219 (fun c=>c.2.1==1) A n c l w hr hn (fun args w'=>callFunc_in Tryz.func219 (by kernel_rfl) (by kernel_rfl) args w') isone_any
theorem mapTexts (A:Option Addr) (n c:Nat) (l:List Cl) (w:World) (hr:Reads w w.heap.size 3 A n (cls l)) (hn:n<=1099511627776) :
  Calls Tryz.prog 221 #[.slice A n c,.func (.func 222) #[] #[]] w fun e w'=>∃ A' c',e=.returned (.slice A' n c')/\n<=c'/\c'<=maxLen/\w'.ownsRow w.heap.size 9 1 (.slice A' n c') n (txs (l.map fun c=>c.2.2))/\Below w.heap.size w w':=
 mappedS_any 222 (fun c=>c.2.2) A n c l w hr hn (fun args w'=>callFunc_in Tryz.func222 (by kernel_rfl) (by kernel_rfl) args w') itstext_any
end Go.Proofs.YtjpjalmilfgckaaGreatDoor
