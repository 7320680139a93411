/- Part 5 of the walks, merged: each text under its own heading. Conditions: none of its own; each lemma states what it asks. -/
import Derived.Test.YtjpjalmilfgckaaGreatDoorIm4
import Derived.Test.YtjpjalmilfgckaaGreatDoorRows
import Derived.Test.YtjpjalmilfgckaaGreatDoorLen64
set_option maxRecDepth 100000
set_option linter.unusedVariables false
set_option linter.unusedSimpArgs false
namespace Go.Proofs.YtjpjalmilfgckaaGreatDoor
open Go.RowKit
set_option maxHeartbeats 400000 in
theorem put_any (A:Option Addr) (l c:Nat) (n:Nat) (xs:List UInt8) (w:World) (hr:Reads w w.heap.size 1 A l (u8s xs)) (hl:l<=c) (hc:c<=maxLen) (hb:l<=1099511627776) (hn:n<18446744073709551616) :
  Calls Tryz.prog 41 #[.slice A l c,.int .u64 (n:Int)] w fun e w'=>∃ A' c',e=.returned (.slice A' (l+(leb n).length) c')/\l+(leb n).length<=c'/\c'<=maxLen /\
   w'.ownsRow w.heap.size 5 1 (.slice A' (l+(leb n).length) c') (l+(leb n).length) (u8s (xs++leb n))/\Below w.heap.size w w':=by
 obtain ⟨i0,hi0,hz0,hz1,hz2⟩:=info_parts u8_info
 unfold maxLen at hc
 have Hn:=Lib.hid hn;clear hn
 go_enter Tryz.func41,Tryz.ntmps41
 go_wp2
 go_loopw [1,5] (fun u v wr=>∃ (m f k:Nat) (cur:List UInt8) (A1:Option Addr) (c1:Nat),u=.int .u64 (m:Int)/\v=.slice A1 k c1/\k+f=l+9/\m<128 ^ (f+1)/\cur++lebF f m=xs++leb n/\App wr w.heap.size 5 1 A1 k c1 (u8s cur)/\Below w.heap.size w wr) (fun u _ _=>(intOf u).toNat)
 case atStart=>exact ⟨n,9,l,xs,A,l,rfl,rfl,rfl,by have:=Hn.out;omega,rfl,.inr ⟨rfl,hr⟩,Below.refl _ _⟩
 case round=>
  obtain ⟨m,f,k,cur,A1,c1,rfl,rfl,hk,hm,hcur,happ,hbel⟩:=hrel
  have Hcur:=Lib.hid hcur;clear hcur
  have Hk:=Lib.hid hk;clear hk
  have Hm:=Lib.hid hm;clear hm
  have hk1:k<=l+9:=by have:=Hk.out;omega
  have hs1:k+1<=maxLen:=by simp only [maxLen];omega
  have hs2:(k+1)*1<=70368744177664:=by omega
  have hbase:=hbel.size
  by_cases hlt:128<=m
  ·go_wp2_with (at_builtin
                refine wpList_append_app _ rfl (.tmp 14) (.tmp 18) 35 rfl w.heap.size 5 i0 (.int .u8 0) 1 1 Tryz.underlying35 hi0 hz0 hz1 hz2 rfl (by decide) A1 k c1 (u8s cur) rfl (happ.alloc _) _ 1 1 _ rfl (reads_new _ _ _) (one_int _ _) (by decide) hs1 hs2 (by simp;omega) ?_
                intro A2 c2 w2 hown2 hb2 hg2 hc2 hm2)
   have hcur':(cur++[UInt8.ofNat (m % 128+128)])++lebF (f-1) (m / 128)=xs++leb n/\1<=f:=by
    have h1:=Hcur.out
    have h2:=Hm.out
    cases f with
    | zero=>simp at h2;omega
    | succ f=>rw [<-h1];simp [lebF,Nat.not_lt.2 hlt]
   rw [u8_or128,<-u8s_append] at hown2
   go_roundw
   case rel=>
    refine ⟨m / 128,f-1,k+1,_,A2,c2,by go_num,rfl,by have:=Hk.out;omega,?_,hcur'.1,.inl hown2,(hbel.alloc hbase _).trans hb2⟩
    have h2:=Hm.out
    obtain ⟨f,rfl⟩:∃ g,f=g+1:=⟨f-1,by omega⟩
    rw [Nat.pow_succ] at h2
    exact Nat.div_lt_of_lt_mul (by rw [Nat.mul_comm];exact h2)
   case measure=>simp [intOf];omega
  go_wp2_with (at_builtin
               refine wpList_append_app _ rfl (.tmp 22) (.tmp 25) 35 rfl w.heap.size 5 i0 (.int .u8 0) 1 1 Tryz.underlying35 hi0 hz0 hz1 hz2 rfl (by decide) A1 k c1 (u8s cur) rfl (happ.alloc _) _ 1 1 _ rfl (reads_new _ _ _) (one_int _ _) (by decide) hs1 hs2 (by simp;omega) ?_
               intro A2 c2 w2 hown2 hb2 hg2 hc2 hm2)
  have hcells:u8s cur++[Value.int .u8 (m:Int)]=u8s (xs++leb n):=by
   rw [<-Hcur.out,lebF_small f m (by omega),u8_cell m (by omega),u8s_append]
  have hlen:k+1=l+(leb n).length:=by
   have h1:=hown2.1
   rw [hcells] at h1
   have h2:=hr.1
   simp at h1 h2
   omega
  rw [hcells] at hown2
  go_ret
  rw [<-hlen]
  exact ⟨A2,c2,rfl,hc2,hm2,hown2,(hbel.alloc hbase _).trans hb2⟩
theorem zig_bits (n:Int) (h1 : -9223372036854775808<=n) (h2:n<=9223372036854775807) :
  bits .xor .u64 (IntKind.u64.wrap (IntKind.u64.wrap n*2)) (IntKind.u64.wrap (n / 9223372036854775808))=(zig n:Int):=by
 rw [IntKind.wrap_u64,IntKind.wrap_u64,IntKind.wrap_u64]
 by_cases h:n<0
 ·have e1:n / 9223372036854775808 = -1:=by omega
  have e2:(-1:Int) % 18446744073709551616=((18446744073709551615:Nat):Int):=by decide
  have e3:n % 18446744073709551616*2 % 18446744073709551616=((2*n+18446744073709551616).toNat:Int):=by omega
  rw [e1,e2,e3,u64_xor_nat _ _ (by omega) (by omega)]
  have e4:(2*n+18446744073709551616).toNat ^^^ 18446744073709551615=18446744073709551615-(2*n+18446744073709551616).toNat:=by
   have hx:(2*n+18446744073709551616).toNat<2 ^ 64:=by omega
   generalize (2*n+18446744073709551616).toNat=x at hx ⊢
   have:=BitVec.toNat_not (x:=BitVec.ofNat 64 x)
   rw [BitVec.not_def] at this
   simp only [BitVec.toNat_xor,BitVec.toNat_ofNat,BitVec.toNat_allOnes] at this
   rw [Nat.mod_eq_of_lt hx] at this
   rw [Nat.xor_comm]
   simpa using this
  rw [e4]
  unfold zig
  rw [if_pos h]
  omega
 have e1:n / 9223372036854775808=0:=by omega
 have e3:n % 18446744073709551616*2 % 18446744073709551616=((2*n).toNat:Int):=by omega
 rw [e1,e3,show (0:Int) % 18446744073709551616=((0:Nat):Int) from rfl,u64_xor_nat _ _ (by omega) (by omega),Nat.xor_zero]
 unfold zig
 rw [if_neg h]
set_option maxHeartbeats 400000 in
theorem zig_any (n:Int) (w:World) (h1 : -9223372036854775808<=n) (h2:n<=9223372036854775807) :
  Calls Tryz.prog 110 #[.int .i64 n] w fun e w'=>e=.returned (.int .u64 (zig n:Int))/\w=w':=by
 have Hz:=Lib.hid (zig_bits n h1 h2)
 clear h1 h2
 go_enter Tryz.func110,Tryz.ntmps110
 go_wp2
 go_ret
 exact ⟨congrArg (fun x=>Ending.returned (.int .u64 x)) Hz.out,rfl⟩
theorem zag_bits (n:Nat) (h:n<18446744073709551616) :
  bits .xor .i64 (wrap64 ((n:Int) / 2)) (wrap64 (-wrap64 (bits .and .u64 (n:Int) 1)))=zag n:=by
 have e1:bits .and .u64 (n:Int) 1=((n % 2:Nat):Int):=by
  rw [show (1:Int)=((1:Nat):Int) from rfl,u64_and_nat _ _ h (by omega),nat_mask1]
 have e2:wrap64 ((n:Int) / 2)=((n / 2:Nat):Int):=by unfold wrap64;omega
 rw [e1,e2]
 have hx:n / 2<2 ^ 63:=by omega
 unfold zag
 by_cases h1:n % 2=1
 ·rw [if_pos h1,h1]
  have e3:wrap64 (-wrap64 ((1:Nat):Int)) = -1:=by unfold wrap64;omega
  rw [e3]
  show IntKind.i64.wrap ((BitVec.ofInt 64 ((n / 2:Nat):Int) ^^^ BitVec.ofInt 64 (-1)).toNat:Int)=_
  generalize n / 2=x at hx
  have e4:BitVec.ofInt 64 (-1)=BitVec.allOnes 64:=by decide
  rw [e4,BitVec.ofInt_natCast,BitVec.xor_comm,<-BitVec.not_def,BitVec.toNat_not,BitVec.toNat_ofNat,IntKind.wrap_i64]
  omega
 have h0:n % 2=0:=by omega
 rw [if_neg h1,h0]
 have e3:wrap64 (-wrap64 ((0:Nat):Int))=0:=by unfold wrap64;omega
 rw [e3]
 show IntKind.i64.wrap ((BitVec.ofInt 64 ((n / 2:Nat):Int) ^^^ BitVec.ofInt 64 0).toNat:Int)=_
 generalize n / 2=x at hx
 have e4:BitVec.ofInt 64 0=0#64:=by decide
 rw [e4,BitVec.ofInt_natCast,BitVec.xor_zero,BitVec.toNat_ofNat,IntKind.wrap_i64]
 omega
set_option maxHeartbeats 400000 in
theorem zag_any (n:Nat) (w:World) (hn:n<18446744073709551616) :
  Calls Tryz.prog 158 #[.int .u64 (n:Int)] w fun e w'=>e=.returned (.int .i64 (zag n))/\w=w':=by
 have Hz:=Lib.hid (zag_bits n hn)
 clear hn
 go_enter Tryz.func158,Tryz.ntmps158
 go_wp2
 go_ret
 exact ⟨congrArg (fun x=>Ending.returned (.int .i64 x)) Hz.out,rfl⟩
set_option maxHeartbeats 400000 in
theorem putInt_any (A:Option Addr) (l c:Nat) (n:Int) (xs:List UInt8) (w:World) (hr:Reads w w.heap.size 1 A l (u8s xs)) (hl:l<=c) (hc:c<=maxLen) (hb:l<=1099511627776) (h1 : -9223372036854775808<=n) (h2:n<=9223372036854775807) :
  Calls Tryz.prog 44 #[.slice A l c,.int .i64 n] w fun e w'=>∃ A' c',e=.returned (.slice A' (l+(leb (zig n)).length) c')/\l+(leb (zig n)).length<=c'/\c'<=maxLen /\
   w'.ownsRow w.heap.size 5 1 (.slice A' (l+(leb (zig n)).length) c') (l+(leb (zig n)).length) (u8s (xs++leb (zig n)))/\Below w.heap.size w w':=by
 have H1:=Lib.hid h1
 have H2:=Lib.hid h2
 clear h1 h2
 go_enter Tryz.func44,Tryz.ntmps44
 go_wp2_with (first
  | (go_at_call 110;refine (zig_any _ _ H1.out H2.out).mono ?_;rintro e w' ⟨rfl,rfl⟩)
  | (go_at_call 41;refine (put_any A l c _ xs _ hr hl hc hb (zig_lt n H1.out H2.out)).mono ?_;rintro e w1 ⟨A',c',rfl,hc1,hc2,hown,hbel⟩))
 go_ret
 exact ⟨A',c',rfl,hc1,hc2,hown,hbel⟩
end Go.Proofs.YtjpjalmilfgckaaGreatDoor
namespace Go.Proofs.YtjpjalmilfgckaaGreatDoor
open Go.RowKit
theorem pow_cast (k:Nat):(2:Int) ^ (7*k)=((128 ^ k:Nat):Int):=by
 rw [Int.natCast_pow,Int.pow_mul];rfl
theorem or_join (acc x k:Nat) (h:acc<128 ^ k):acc ||| x*128 ^ k=acc+x*128 ^ k:=by
 have e:(128:Nat) ^ k=2 ^ (7*k):=by rw [Nat.pow_mul]
 rw [e] at h ⊢
 rw [Nat.or_comm,nat_join (7*k) _ _ (Nat.mul_mod_left _ _) h,Nat.add_comm]
theorem get_last (acc b k:Nat) (hk:k<=9) (h:acc<128 ^ k) (hb:b<128) (h9:k=9->b<=1) :
  bits .or .u64 (acc:Int) (IntKind.u64.wrap ((b:Int)*2 ^ (7*k)))=((acc+b*128 ^ k:Nat):Int):=by
 have e9:(128:Nat) ^ 9=9223372036854775808:=by decide
 have h64:b*128 ^ k<18446744073709551616:=by
  rcases Nat.lt_or_ge k 9 with hlt | hge
  ·have h8:128 ^ k<=128 ^ 8:=Nat.pow_le_pow_right (by omega) (by omega)
   have e8:(128:Nat) ^ 8=72057594037927936:=by decide
   have:=Nat.mul_le_mul (Nat.le_of_lt_succ hb:b<=127) h8
   rw [e8] at this
   omega
  obtain rfl:k=9:=by omega
  have:=h9 rfl
  rw [e9]
  omega
 have hacc:acc<18446744073709551616:=by
  have:128 ^ k<=128 ^ 9:=Nat.pow_le_pow_right (by omega) hk
  omega
 have e:((b:Int)*((128 ^ k:Nat):Int))=((b*128 ^ k:Nat):Int):=by rw [Int.natCast_mul]
 rw [pow_cast,e,IntKind.wrap_u64]
 generalize hx:b*128 ^ k=x at h64 ⊢
 have em:(x:Int) % 18446744073709551616=(x:Int):=by omega
 rw [em,u64_or_nat _ _ hacc h64,<-hx,or_join _ _ _ h]
theorem get_nine (acc b:Nat) (h:acc<128 ^ 9) (hb:b<=1):bits .or .u64 (acc:Int) ((b:Int)*9223372036854775808)=((acc+b*128 ^ 9:Nat):Int):=by
 rw [<-get_last acc b 9 (by omega) h (by omega) (fun _=>hb)]
 congr 1
 have e:(2:Int) ^ (7*9)=9223372036854775808:=by decide
 rw [e,IntKind.wrap_u64]
 omega
theorem get_more (acc b k:Nat) (hk:k<=8) (h:acc<128 ^ k) (hb:b<256) :
  bits .or .u64 (acc:Int) (IntKind.u64.wrap (IntKind.u64.wrap (bits .andNot .u8 (b:Int) 128)*2 ^ (7*k)))=((acc+b % 128*128 ^ k:Nat):Int):=by
 have h2:∀ k,k<256->k &&& (255-128)=k % 128:=by decide +kernel
 rw [show (128:Int)=((128:Nat):Int) from rfl,u8_andNot_nat b 128 hb (by omega),h2 b hb]
 have:IntKind.u64.wrap ((b % 128:Nat):Int)=((b % 128:Nat):Int):=by rw [IntKind.wrap_u64];omega
 rw [this]
 exact get_last acc (b % 128) k (by omega) h (by omega) (by omega)
theorem get_step (xs:List UInt8) (k acc:Nat) (b:UInt8) (h:get xs=getL (xs.drop k) k acc) (hb:xs[k]? = some b) :
  get xs=if k=9/\1<b.toNat then (0,0,6) else if 0<k/\b.toNat=0 then (0,0,10) else if b.toNat<128 then (acc+b.toNat*128 ^ k,k+1,0) else getL (xs.drop (k+1)) (k+1) (acc+b.toNat % 128*128 ^ k):=by
 rw [h]
 obtain ⟨hlt,rfl⟩:=List.getElem?_eq_some_iff.1 hb
 rw [List.drop_eq_getElem_cons hlt]
 rfl
theorem get_end (xs:List UInt8) (k acc:Nat) (h:get xs=getL (xs.drop k) k acc) (hb:xs.length<=k):get xs=(0,0,3):=by
 rw [h,List.drop_of_length_le hb];rfl
theorem acc_more (acc k x:Nat) (h:acc<128 ^ k) (hx:x<128):acc+x*128 ^ k<128 ^ (k+1):=by
 rw [Nat.pow_succ]
 have:x*128 ^ k<=127*128 ^ k:=Nat.mul_le_mul_right _ (by omega)
 omega
def gotten (r:Nat×Nat×Nat):Ending:=.returned (.tuple #[.int .u64 (r.1:Int),.int .i64 (r.2.1:Int),.int .i64 (r.2.2:Int)])
set_option maxHeartbeats 400000 in
theorem get_any (A:Option Addr) (l c:Nat) (xs:List UInt8) (w:World) (hr:Reads w w.heap.size 1 A l (u8s xs)) (hl:l<=c) (hc:c<=maxLen) :
  Calls Tryz.prog 81 #[.slice A l c] w fun e w'=>e=gotten (get xs)/\w=w':=by
 unfold maxLen at hc
 have Hlen:=Lib.hid (show xs.length=l by have:=hr.1;simpa using this)
 go_enter Tryz.func81,Tryz.ntmps81
 go_wp2
 go_loop [2,10] (fun u i=>∃ (k acc:Nat),k<=9/\k<=l/\i=.int .i64 (k:Int)/\u=.int .u64 (acc:Int)/\Hid (acc<128 ^ k)/\Hid (get xs=getL (xs.drop k) k acc)) (fun _ i=>10-(intOf i).toNat)
 case atStart=>exact ⟨0,0,by omega,by omega,rfl,rfl,by show (0:Nat)<1;omega,rfl⟩
 case round=>
  obtain ⟨k,acc,hk9,hkl,rfl,rfl,Hacc,Hget⟩:=hrel
  by_cases hlt:k<l
  ·obtain ⟨ad,v,rfl,_,hx,hcell⟩:=hr.at_ hlt
   obtain ⟨b,hb,rfl⟩:=u8s_get xs k v hx
   have Hstep:=Lib.hid (get_step xs k acc b Hget.out hb)
   clear hx hb
   have hb256:b.toNat<256:=b.toNat_lt
   have t0:((b.toNat:Int)==0)=true->b.toNat=0:=fun h=>by simpa using h
   have f0:((b.toNat:Int)==0)=false->b.toNat≠0:=fun h=>by simpa using h
   have T0:=Lib.hid t0
   have F0:=Lib.hid f0
   clear t0 f0
   go_wp2
   ·go_ret3
    exact ⟨by rw [Hstep.out,if_pos ⟨by omega,by omega⟩];rfl,rfl⟩
   ·go_ret3
    have h0:=T0.out (by assumption)
    exact ⟨by rw [Hstep.out,if_neg (by omega),if_pos ⟨by omega,h0⟩];rfl,rfl⟩
   ·go_ret3
    have h0:=F0.out (by assumption)
    have h9:k=9:=by omega
    refine ⟨?_,rfl⟩
    subst h9
    have hl:=get_nine acc b.toNat Hacc.out (by omega)
    rw [Hstep.out,if_neg (by omega),if_neg (by omega),if_pos (by omega),gotten,<-hl]
    rfl
   ·go_ret3
    have h0:=T0.out (by assumption)
    exact ⟨by rw [Hstep.out,if_neg (by omega),if_pos ⟨by omega,h0⟩];rfl,rfl⟩
   ·go_ret3
    have h0:=F0.out (by assumption)
    have hl:=get_last acc b.toNat k hk9 Hacc.out (by omega) (by omega)
    exact ⟨by rw [Hstep.out,if_neg (by omega),if_neg (by omega),if_pos (by omega),gotten,<-hl];rfl,rfl⟩
   ·have h0:=F0.out (by assumption)
    have hl:=get_more acc b.toNat k (by omega) Hacc.out (by omega)
    go_round
    case rel=>exact ⟨k+1,_,by omega,by omega,by go_num,by rw [hl],acc_more _ _ _ Hacc.out (by omega),by rw [Hstep.out,if_neg (by omega),if_neg (by omega),if_neg (by omega)];rfl⟩
    case measure=>simp [intOf];omega
   ·go_ret3
    have hl:=get_last acc b.toNat k hk9 Hacc.out (by omega) (by omega)
    exact ⟨by rw [Hstep.out,if_neg (by omega),if_neg (by omega),if_pos (by omega),gotten,<-hl];rfl,rfl⟩
   have hl:=get_more acc b.toNat k (by omega) Hacc.out (by omega)
   go_round
   case rel=>exact ⟨k+1,_,by omega,by omega,by go_num,by rw [hl],acc_more _ _ _ Hacc.out (by omega),by rw [Hstep.out,if_neg (by omega),if_neg (by omega),if_neg (by omega)];rfl⟩
   case measure=>simp [intOf];omega
  go_wp2
  go_ret3
  exact ⟨by rw [get_end xs k acc Hget.out (by rw [Hlen.out];omega)];rfl,rfl⟩
end Go.Proofs.YtjpjalmilfgckaaGreatDoor
namespace Go.Proofs.YtjpjalmilfgckaaGreatDoor
open Go.RowKit
def gottenInt (r:Nat×Nat×Nat):Ending:=.returned (.tuple #[.int .i64 (zag r.1),.int .i64 (r.2.1:Int),.int .i64 (r.2.2:Int)])
theorem get_lt (xs:List UInt8):(get xs).1<18446744073709551616:=by
 rcases get_only xs with ⟨n,h,hn,_⟩ | ⟨e,h,_⟩
 ·rw [h];exact hn
 rw [h];show (0:Nat)<18446744073709551616;omega
set_option maxHeartbeats 400000 in
theorem getInt_any (A:Option Addr) (l c:Nat) (xs:List UInt8) (w:World) (hr:Reads w w.heap.size 1 A l (u8s xs)) (hl:l<=c) (hc:c<=maxLen) :
  Calls Tryz.prog 99 #[.slice A l c] w fun e w'=>e=gottenInt (get xs)/\w=w':=by
 have Hlt:=Lib.hid (get_lt xs)
 go_enter Tryz.func99,Tryz.ntmps99
 go_wp2_with fail
 refine (get_any A l c xs _ hr hl hc).mono ?_
 rintro e w' ⟨rfl,rfl⟩
 simp only [gotten]
 go_wp2_with fail
 refine (zag_any _ _ Hlt.out).mono ?_
 rintro e w' ⟨rfl,rfl⟩
 go_wp2
 go_ret3
 exact ⟨rfl,rfl⟩
end Go.Proofs.YtjpjalmilfgckaaGreatDoor
namespace Go.Proofs.YtjpjalmilfgckaaGreatDoor
open Go.RowKit
theorem u64_wrap (n:Nat) (h:n<18446744073709551616):IntKind.u64.wrap (n:Int)=(n:Int):=by
 simp only [IntKind.wrap,IntKind.signed,IntKind.bits]
 simp
 omega
theorem bts_len (s:ByteArray):(bts s).length=s.size:=by unfold bts;rw [Array.length_toList];rfl
def Put1 (d:List ByteArray) (ns:List Nat) (tot:List UInt8) (k:Nat) (cur:List UInt8):Prop:=cur++((d.drop k).flatMap putText++ns.flatMap leb)=tot
def Put2 (ns:List Nat) (tot:List UInt8) (k:Nat) (cur:List UInt8):Prop:=cur++(ns.drop k).flatMap leb=tot
theorem put1_step {d:List ByteArray} {ns:List Nat} {tot:List UInt8} {k:Nat} {cur:List UInt8} {s:ByteArray} (h:Put1 d ns tot k cur) (hs:d[k]? = some s):Put1 d ns tot (k+1) (cur++leb (bts s).length++bts s)/\cur.length+(leb (bts s).length).length+(bts s).length<=tot.length:=by
 unfold Put1 at *
 obtain ⟨hlt,rfl⟩:=List.getElem?_eq_some_iff.1 hs
 rw [List.drop_eq_getElem_cons hlt,List.flatMap_cons] at h
 rw [<-h]
 unfold putText
 refine ⟨by simp only [List.append_assoc],?_⟩
 simp only [List.length_append]
 omega
theorem put1_end {d:List ByteArray} {ns:List Nat} {tot:List UInt8} {cur:List UInt8} (h:Put1 d ns tot d.length cur):Put2 ns tot 0 cur:=by
 unfold Put1 at h
 rw [List.drop_length] at h
 exact h
theorem put2_step {ns:List Nat} {tot:List UInt8} {k n:Nat} {cur:List UInt8} (h:Put2 ns tot k cur) (hs:ns[k]? = some n):Put2 ns tot (k+1) (cur++leb n)/\cur.length+(leb n).length<=tot.length:=by
 unfold Put2 at *
 obtain ⟨hlt,rfl⟩:=List.getElem?_eq_some_iff.1 hs
 rw [List.drop_eq_getElem_cons hlt,List.flatMap_cons] at h
 rw [<-h]
 refine ⟨by simp only [List.append_assoc],?_⟩
 simp only [List.length_append]
 omega
theorem put2_end {ns:List Nat} {tot:List UInt8} {cur:List UInt8} (h:Put2 ns tot ns.length cur):cur=tot:=by
 unfold Put2 at h
 rw [List.drop_length] at h
 simpa using h
theorem put1_start (l:List ByteArray) (xs:List UInt8):Put1 (splitL l).1 (splitL l).2 (xs++putD l) 0 (xs++leb (splitL l).1.length):=by
 unfold Put1 putD
 simp only [List.drop_zero,List.append_assoc]
theorem nns_get (xs:List Nat) (k:Nat) (v:Value) (h:(nns xs)[k]? = some v):∃ c:Nat,xs[k]? = some c/\v=.int .i64 (c:Int):=by
 simp only [nns,List.getElem?_map,Option.map_eq_some_iff] at h
 obtain ⟨c,h1,h2⟩:=h
 exact ⟨c,h1,h2.symm⟩
theorem split_small (l:List ByteArray):∀ n∈(splitL l).2,n<(splitL l).1.length:=by
 obtain ⟨-,-,h3⟩:=splitL_used l
 intro n hn
 have:(splitL l).1[n]? ∈ l.map some:=by rw [<-h3];exact List.mem_map_of_mem hn
 obtain ⟨s,-,e⟩:=List.mem_map.1 this
 exact (List.getElem?_eq_some_iff.1 e.symm).1
def Wrote (l:List UInt8) (w:World) (e:Ending) (w':World):Prop:=
 ∃ (A:Option Addr) (c:Nat),e=.returned (.slice A l.length c)/\l.length<=c/\c<=maxLen/\w'.ownsRow w.heap.size 5 1 (.slice A l.length c) l.length (u8s l)/\Below w.heap.size w w'
set_option maxHeartbeats 2000000 in
theorem dput_any (A:Option Addr) (n c:Nat) (xs:List UInt8) (B:Option Addr) (m c2:Nat) (l:List ByteArray) (w:World) (hr:Reads w w.heap.size 1 A n (u8s xs)) (hn:n<=c) (hc:c<=maxLen)
  (hr2:Reads w w.heap.size 1 B m (txs l)) (hm:m<=1099511627776) (hsz:∀ s∈l,s.size<=maxLen) (htot:(xs++putD l).length<=1099511627776) :
  Calls Tryz.prog 220 #[.slice A n c,.slice B m c2] w (Wrote (xs++putD l) w):=by
 obtain ⟨i0,hi0,hz0,hz1,hz2⟩:=info_parts u8_info
 have hst:=put1_start l xs
 have Hlen2:=Lib.hid (tlen hr2)
 have hsl:=splitL_len l
 have hsm:=split_small l
 generalize hT:xs++putD l=tot at hst htot ⊢
 have Hst:=Lib.hid hst
 have Hsm:=Lib.hid hsm
 clear hT hst hsm
 go_enter Tryz.func220,Tryz.ntmps220
 go_wp2_with fail
 with_reducible refine (split_any B m c2 l _ hr2 hm hsz).mono ?_
 rintro e w1 ⟨A1,c3,A2,c4,rfl,g1,g2,g3,g4,o1,o2,hb1⟩
 have r1:=own_reads o1
 have r2:=own_reads o2
 have hr1:=hr.on hb1
 have hlx:=reads_len hr
 have hnl:l.length=m:=Hlen2.out
 rw [hnl] at g3 r2 hsl
 simp only [hnl]
 obtain ⟨hsl1,hsl2⟩:=hsl
 have HNS:=Lib.hid hsl2
 generalize (splitL l).2=ns at r2 Hst Hsm HNS
 have hd0:(splitL l).1.length<18446744073709551616:=by omega
 generalize (splitL l).1=d at r1 Hst hsl1 g1 Hsm hd0 ⊢
 clear o1 o2 hnl hsl2 hr hr2
 have hnt:n<=1099511627776:=by have h:=congrArg List.length Hst.out;simp only [List.length_append] at h;omega
 clear hlx
 have hdm:d.length<=1099511627776:=by omega
 go_wp2_with fail
 with_reducible refine (put_any A n c d.length xs _ hr1 hn hc hnt hd0).mono ?_
 rintro e w2 ⟨A3,c5,rfl,hc5,hd5,o3,hb2⟩
 have Hl3:=Lib.hid (reads_len (own_reads o3))
 go_wp2
 go_loopw [7,24] (fun v i wr=>∃ (k q:Nat) (Aq:Option Addr) (cq:Nat) (cur:List UInt8),k<=d.length/\q<=cq/\cq<=maxLen/\i=.int .i64 (k:Int)/\v=.slice Aq q cq/\Hid (Put1 d ns tot k cur) /\
  wr.ownsRow w1.heap.size 5 1 (.slice Aq q cq) q (u8s cur)/\Below w1.heap.size w1 wr) (fun _ i _=>d.length-(intOf i).toNat)
 case atStart=>exact ⟨0,_,A3,c5,_,Nat.zero_le _,hc5,hd5,rfl,rfl,Hst,o3,hb2⟩
 case round=>
  clear o3 hb2 Hl3 hc5
  obtain ⟨k,q,Aq,cq,cur,hk,hq1,hq2,rfl,rfl,hp,hown,hB⟩:=hrel
  have Hq:=Lib.hid (reads_len (own_reads hown))
  by_cases hlt:k<d.length
  ·obtain ⟨ad,v,rfl,hbk,hx,hcell⟩:=r1.at_ hlt
   rw [<-hB.cell (p:=ad.add k) (by rw [block_of_add];exact hbk)] at hcell
   obtain ⟨s,hs',rfl⟩:=txs_get _ _ _ hx
   obtain ⟨hp2,hle⟩:=put1_step hp.out hs'
   have hql:cur.length=q:=Hq.out
   rw [hql] at hle
   have hss:s.size<18446744073709551616:=by rw [<-bts_len];omega
   have hq0:q<=1099511627776:=by omega
   have hbl:=bts_len s
   have Hp2:=Lib.hid hp2
   have hbs:=hB.size
   have Hbl:=Lib.hid hbl
   rw [hbl] at hle
   clear hx hs' hp2 hp hql hbl
   have hss2:s.size<=9223372036854775807:=by omega
   go_wp2_with fail
   with_reducible refine (put_any Aq q cq s.size cur _ (own_reads hown) hq1 hq2 hq0 hss).mono ?_
   rintro e w3 ⟨A6,c6,rfl,hc6,hd6,o6,hb3⟩
   replace o6:=own_mono o6 hbs
   have hB3:=hB.trans (hb3.mono hbs)
   have hbase3:=hB3.size
   have hs63:q+(leb s.size).length+s.data.toList.length<=70368744177664:=by
    have:=Hbl.out
    unfold bts at this
    omega
   go_wp2_with (at_builtin
                refine wpList_append_str rfl (.tmp 32) (.tmp 33) 35 9 rfl w1.heap.size 5 i0 Tryz.underlying35 Tryz.underlying9 hi0 hz0 hz1 hz2 A6 _ c6 _ rfl o6 s rfl hs63 hbase3 ?_
                intro A7 c7 w7 o7 hb7 hg7 hc7 hd7)
   have hB7:=hB3.trans hb7
   have Hp3:Hid (Put1 d ns tot (k+1) (cur++leb s.size++s.data.toList)):=by
    have:=Hp2.out
    rw [Hbl.out] at this
    exact this
   go_roundw
   case rel=>exact ⟨k+1,_,A7,c7,_,by omega,hc7,hd7,by go_num,rfl,Hp3,o7,hB7⟩
   case measure=>simp [intOf];omega
  have hkd:k=d.length:=by omega
  subst hkd
  have Hp0:=Lib.hid (put1_end hp.out)
  clear hp
  go_wp2
  go_loopw [7,38] (fun v i wr=>∃ (k q:Nat) (Aq:Option Addr) (cq:Nat) (cur:List UInt8),k<=m/\q<=cq/\cq<=maxLen/\i=.int .i64 (k:Int)/\v=.slice Aq q cq/\Hid (Put2 ns tot k cur) /\
   wr.ownsRow w1.heap.size 5 1 (.slice Aq q cq) q (u8s cur)/\Below w1.heap.size w1 wr) (fun _ i _=>m-(intOf i).toNat)
  case atStart=>exact ⟨0,_,Aq,cq,_,Nat.zero_le _,hq1,hq2,rfl,rfl,Hp0,hown,hB⟩
  case round=>
   clear hown hB Hq hq1
   obtain ⟨k,q,Aq,cq,cur,hk,hq1,hq2,rfl,rfl,hp,hown,hB⟩:=hrel
   have Hq:=Lib.hid (reads_len (own_reads hown))
   by_cases hlt:k<m
   ·obtain ⟨ad,v,rfl,hbk,hx,hcell⟩:=r2.at_ hlt
    rw [<-hB.cell (p:=ad.add k) (by rw [block_of_add];exact hbk)] at hcell
    obtain ⟨y,hs',rfl⟩:=nns_get _ _ _ hx
    obtain ⟨hp2,hle⟩:=put2_step hp.out hs'
    have hql:cur.length=q:=Hq.out
    rw [hql] at hle
    have hy:=Hsm.out y (List.mem_of_getElem? hs')
    have hy0:y<18446744073709551616:=by omega
    have hy1:y<=9223372036854775807:=by omega
    have hq0:q<=1099511627776:=by omega
    have Hp2:=Lib.hid hp2
    have hbs:=hB.size
    clear hx hs' hp2 hp hql
    go_wp2_with fail
    with_reducible refine (put_any Aq q cq y cur _ (own_reads hown) hq1 hq2 hq0 hy0).mono ?_
    rintro e w3 ⟨A6,c6,rfl,hc6,hd6,o6,hb3⟩
    replace o6:=own_mono o6 hbs
    have hB3:=hB.trans (hb3.mono hbs)
    go_wp2
    go_roundw
    case rel=>exact ⟨k+1,_,A6,c6,_,by omega,hc6,hd6,by go_num,rfl,Hp2,o6,hB3⟩
    case measure=>simp [intOf];omega
   have hkm:k=ns.length:=by have:=HNS.out;omega
   have hp0:=hp.out
   rw [hkm] at hp0
   have Hp0:=Lib.hid (put2_end hp0)
   clear hp0 hp hkm
   go_wp2
   go_ret
   have hcur:=Hp0.out
   have hql:=Hq.out
   subst hcur hql
   exact ⟨Aq,cq,rfl,hq1,hq2,own_mono hown hb1.size,hb1.trans (hB.mono hb1.size)⟩
end Go.Proofs.YtjpjalmilfgckaaGreatDoor
namespace Go.Proofs.YtjpjalmilfgckaaGreatDoor
open Go.RowKit
theorem grown_set (w:World) (g i:Nat) (u:Value):w.grownBy (w.setCell ⟨g,i,none⟩ u) (some g):=
 ⟨rfl,rfl,rfl,by simp [World.setCell],fun k hk hne=>Below.heap_setCell w ⟨g,i,none⟩ u k (by intro e;exact hne (by rw [e]))⟩
theorem grown_drew (w:World) (r:Option Nat):w.grownBy w.drew r:=⟨rfl,rfl,rfl,Nat.le_refl _,fun _ _ _=>rfl⟩
abbrev Cut (w:World) (g:Nat) (A:Option Addr) (l c:Nat) (at':Nat) (e:Nat):Prop:=Blk w g 309 #[.slice A l c,.int .i64 (at':Int),.int .i64 (e:Int)]
theorem get_size (xs:List UInt8):(get xs).2.1<=xs.length/\(get xs).2.2<11/\((get xs).2.2≠0->(get xs).1=0/\(get xs).2.1=0):=by
 rcases get_only xs with ⟨n,h,h1,h2,h3⟩ | ⟨e,h,h1,h2⟩
 ·rw [h]
  exact ⟨h2,show 0<11 from by decide,fun h=>absurd rfl h⟩
 rw [h]
 exact ⟨Nat.zero_le _,h2,fun _=>⟨rfl,rfl⟩⟩
theorem own_grown {w w':World} {base size n g:Nat} {e t:TypeId} {v:Value} {xs:List Value} {cs:Array Value} (h:w.ownsRow base e size v n xs) (hb:Blk w g t cs) (hne:e≠t) (hg:w.grownBy w' (some g)):w'.ownsRow base e size v n xs:=by
 refine h.kept hg ?_
 rcases h.2 with ⟨rfl,h0⟩ | ⟨g2,cap,cur,rfl,h1,h2,h3⟩
 ·exact .inl rfl
 right
 simp only [Value.ownBlock,ne_eq,Option.some.injEq]
 rintro rfl
 unfold Blk at hb
 rw [h2] at hb
 injection hb with hb
 injection hb with _ h4
 exact hne h4
theorem Blk.other {w w':World} {g g2:Nat} {t:TypeId} {cs:Array Value} (h:Blk w g t cs) (hg:w.grownBy w' (some g2)) (hne:g≠g2):Blk w' g t cs:=
 (hg.block g h.lt (by simpa using hne)).trans h
theorem Blk.ne {w:World} {g g2:Nat} {t t2:TypeId} {cs cs2:Array Value} (h:Blk w g t cs) (h2:Blk w g2 t2 cs2) (hne:t≠t2):g≠g2:=by
 rintro rfl
 unfold Blk at h h2
 rw [h] at h2
 injection h2 with h2
 injection h2 with _ h4
 exact hne h4
theorem Below.by_ {w w':World} {B g:Nat} (hg:w.grownBy w' (some g)) (hB:B<=w.heap.size) (h:B<=g):Below B w w':=
 (Below.refl _ _).grown hg hB (fun k hk=>by cases hk;exact h)
set_option maxHeartbeats 400000 in
theorem cnum_err (g:Nat) (A:Option Addr) (l c at' e:Nat) (w:World) (hb:Cut w g A l c at' e) (he:e≠0) :
  Calls Tryz.prog 268 #[.pointer (some ⟨g,0,none⟩)] w fun e' w'=>e'=.returned (.int .u64 0)/\w=w':=by
 have c2:=hb.cell 2
 have hn:((e:Int)==0)=false:=by simp;omega
 have hn2:((e:Int) != 0)=true:=by simp;omega
 clear hb he
 go_enter Tryz.func268,Tryz.ntmps268
 go_wp2
 go_ret
 exact ⟨rfl,rfl⟩
def Taken (g:Nat) (A:Option Addr) (l c at':Nat) (r:Nat×Nat×Nat) (w:World) (e:Ending) (w':World):Prop:=
 e=.returned (.int .u64 (r.1:Int))/\Cut w' g A l c (at'+r.2.1) r.2.2/\w.grownBy w' (some g)
set_option maxHeartbeats 1000000 in
theorem cnum_any (g:Nat) (A:Option Addr) (l c at':Nat) (xs:List UInt8) (w:World) (hb:Cut w g A l c at' 0) (hr:Reads w w.heap.size 1 A l (u8s xs)) (hl:l<=c) (hc:c<=maxLen) (hat:at'<=l) :
  Calls Tryz.prog 268 #[.pointer (some ⟨g,0,none⟩)] w (Taken g A l c at' (get (xs.drop at')) w):=by
 have c0:=hb.cell 0
 have c1:=hb.cell 1
 have c2:=hb.cell 2
 have f1:=hb.frozen 1
 have f2:=hb.frozen 2
 have hcut:=hr.cut (k:=at') (cap:=c) hat hl
 rw [Nat.mul_one,u8s_drop] at hcut
 have hrl:=reads_len hr
 have hgs:=get_size (xs.drop at')
 rw [List.length_drop,hrl] at hgs
 unfold maxLen at hc
 have hL0:∀ w',w'=w.drew->w'.cell? ⟨g,0,none⟩=some (.slice A l c):=fun w' h=>by rw [h];exact c0
 have hL1:∀ w',w'=w.drew->w'.cell? ⟨g,1,none⟩=some (.int .i64 (at':Int)):=fun w' h=>by rw [h];exact c1
 have HL0:=Lib.hid hL0
 have HL1:=Lib.hid hL1
 obtain ⟨hg1,hg2,-⟩:=hgs
 have Hb:=Lib.hid hb
 clear hL0 hL1 hrl hb
 have hac:at'<=c:=by omega
 go_enter Tryz.func268,Tryz.ntmps268
 go_wp2
 have hS:w.drew=w.drew:=rfl
 refine hR (fun w'=>w'=w.drew) [ff 0,ff 1,ff 2,ff 3,ff 4,ff 5,ff 6,ff 7,ff 8,tt 9,ff 10,ff 11,ff 12,ff 13,ff 14,ff 15,ff 16] ?_
 iterate 3
  refine hP hS ?_
 refine hP1 hS HL0.out ?_
 iterate 3
  refine hP hS ?_
 refine hP1 hS HL1.out ?_
 refine hP hS ?_
 refine hE fun K hK=>?_
 go_simp
 generalize (if c=at' then A else Option.map (fun x=>x.add at') A)=A' at hcut ⊢
 with_reducible refine (get_any _ _ _ (xs.drop at') _ hcut.drew (by omega) (by simp only [maxLen];omega)).mono ?_
 rintro e w3 ⟨rfl,rfl⟩
 generalize hget:get (xs.drop at')=r at hg1 hg2 ⊢
 obtain ⟨rn,rk,re⟩:=r
 have Hget:=Lib.hid hget
 clear hget
 simp only [gotten] at hg1 hg2 ⊢
 refine held_go hK (by exact rfl) fun hS=>?_
 clear hK K
 try simp only [zp]
 iterate 7
  refine hP hS ?_
 refine held_end ?_
 clear hS
 go_wp2
 go_ret
 rw [Hget.out]
 have hb2:=(Hb.out.set_ 1 (.int .i64 ((at':Int)+(rk:Int)))).set_ 2 (.int .i64 (re:Int))
 refine ⟨rfl,?_,?_⟩
 ·have e:((at'+rk:Nat):Int)=(at':Int)+(rk:Int):=by omega
  simp only [e]
  exact hb2.drew
 exact (grown_drew w _).trans ((grown_set w.drew g 1 _).trans (grown_set _ g 2 _))
end Go.Proofs.YtjpjalmilfgckaaGreatDoor
namespace Go.Proofs.YtjpjalmilfgckaaGreatDoor
open Go.RowKit
theorem Reads.other {w w':World} {size n g:Nat} {A:Option Addr} {xs:List Value} (h:Reads w w.heap.size size A n xs) (hg:w.grownBy w' (some g)) (hne:0<n->∀ ad,A=some ad->ad.block≠g):Reads w' w'.heap.size size A n xs:=by
 refine ⟨h.1,fun hn=>?_⟩
 obtain ⟨ad,e,h1,h2⟩:=h.2 hn
 refine ⟨ad,e,Nat.lt_of_lt_of_le h1 hg.size,fun j u hu=>?_⟩
 exact hg.cell (h2 j u hu) (by rw [block_of_add];simpa using hne hn ad e)
theorem i64_wrap (x:Int) (h1 : -9223372036854775808<=x) (h2:x<=9223372036854775807):IntKind.i64.wrap x=x:=by
 simp only [IntKind.wrap,IntKind.signed,IntKind.bits]
 simp
 omega
def TakenT (g:Nat) (A:Option Addr) (l c at':Nat) (r:Except Nat (ByteArray×Nat)) (w:World) (e:Ending) (w':World):Prop:=
 w.grownBy w' (some g)/\match r with
  | .error k=>e=.returned (.string ⟨#[]⟩)/\∃ at2,at2<=l/\Cut w' g A l c at2 k
  | .ok (s,n)=>e=.returned (.string s)/\Cut w' g A l c (at'+n) 0
theorem takenT_err {g:Nat} {A:Option Addr} {l c at' k at2:Nat} {r:Except Nat (ByteArray×Nat)} {w w':World} (hr:r=.error k) (h1:w.grownBy w' (some g)) (h2:at2<=l) (h3:Cut w' g A l c at2 k):TakenT g A l c at' r w (.returned (.string ⟨#[]⟩)) w':=by
 subst hr
 exact ⟨h1,rfl,at2,h2,h3⟩
set_option maxHeartbeats 1000000 in
theorem ctext_any (g:Nat) (A:Option Addr) (l c at':Nat) (xs:List UInt8) (most:Int) (w:World) (hb:Cut w g A l c at' 0) (hr:Reads w w.heap.size 1 A l (u8s xs)) (hl:l<=c) (hc:c<=maxLen) (hat:at'<=l) (hg:0<l->∀ ad,A=some ad->ad.block≠g) (hm:most<=9223372036854775807) :
  Calls Tryz.prog 292 #[.pointer (some ⟨g,0,none⟩),.int .i64 most] w (TakenT g A l c at' (takeT most (xs.drop at')) w):=by
 have hgs:=get_size (xs.drop at')
 have hrl:=reads_len hr
 rw [List.length_drop,hrl] at hgs
 have Hrl:=Lib.hid hrl
 clear hrl
 go_enter Tryz.func292,Tryz.ntmps292
 go_wp2_with fail
 with_reducible refine (cnum_any g A l c at' xs _ hb hr hl hc hat).mono ?_
 rintro e w1 ⟨rfl,hb1,hg1⟩
 have hr1:=hr.other hg1 hg
 have htk:takeT most (xs.drop at')=takeT most (xs.drop at'):=rfl
 conv at htk=>rhs;unfold takeT
 rw [List.length_drop,Hrl.out] at htk
 generalize get (xs.drop at')=r at hgs hb1 htk ⊢
 obtain ⟨rn,rk,re⟩:=r
 obtain ⟨hk1,hk2,hk3⟩:=hgs
 simp only at hk1 hk2 hk3 hb1 htk ⊢
 have hq:at'+rk<=l:=by omega
 rw [show l-at'-rk=l-(at'+rk) from by omega] at htk
 generalize hqq:at'+rk=q at hb1 hq htk
 have Hqq:=Lib.hid hqq
 clear hqq
 have c2:=hb1.cell 2
 have f2:=hb1.frozen 2
 have hb1s:=fun u=>hb1.set_ 2 u
 by_cases hre:re=0
 ·subst hre
  rw [if_neg (by simp)] at htk
  by_cases hlim:most<0\/most<(rn:Int)
  ·rw [if_pos hlim] at htk
   have Htk:=Lib.hid htk
   have Hb1:=Lib.hid hb1
   have Hb1s:=Lib.hid hb1s
   clear htk hk3 hb1 hb1s
   rcases hlim with h | h
   ·go_wp2
    go_ret
    exact takenT_err Htk.out (hg1.trans (grown_set w1 g 2 _)) hq (Hb1s.out _)
   by_cases hm0:most<0
   ·go_wp2
    go_ret
    exact takenT_err Htk.out (hg1.trans (grown_set w1 g 2 _)) hq (Hb1s.out _)
   obtain ⟨mo,rfl⟩:=Int.eq_ofNat_of_zero_le (by omega:0<=most)
   go_wp2
   go_ret
   exact takenT_err Htk.out (hg1.trans (grown_set w1 g 2 _)) hq (Hb1s.out _)
  rw [if_neg hlim] at htk
  obtain ⟨mo,rfl⟩:=Int.eq_ofNat_of_zero_le (by omega:0<=most)
  have hmo:rn<=mo:=by omega
  have c0:=hb1.cell 0
  have c1:=hb1.cell 1
  have hL0:∀ w',w'=w1.drew->w'.cell? ⟨g,0,none⟩=some (.slice A l c):=fun w' h=>by rw [h];exact c0
  have hL1:∀ w',w'=w1.drew->w'.cell? ⟨g,1,none⟩=some (.int .i64 (q:Int)):=fun w' h=>by rw [h];exact c1
  have HL0:=Lib.hid hL0
  have HL1:=Lib.hid hL1
  have hl63:l<=9223372036854775807:=by unfold maxLen at hc;omega
  have hsub:IntKind.i64.wrap ((l:Int)-(q:Int))=((l-q:Nat):Int):=by rw [i64_wrap _ (by omega) (by omega)];omega
  have hsub2:=u64_wrap (l-q) (by omega)
  have Hsub:=Lib.hid hsub
  have Hsub2:=Lib.hid hsub2
  clear hlim hk3 hL0 hL1 c0 c1 hsub hsub2
  by_cases hlen:l-q<rn
  ·rw [if_pos hlen] at htk
   have Htk:=Lib.hid htk
   have Hb1:=Lib.hid hb1
   have Hb1s:=Lib.hid hb1s
   have db:decide (l-q<rn)=true:=by simp;omega
   clear htk hb1 hb1s
   go_wp2
   have hS:w1.drew=w1.drew:=rfl
   refine hR (fun w'=>w'=w1.drew) [ff 0,ff 1,ff 2,ff 3,ff 4,ff 5,ff 6,ff 7,ff 8,ff 9,ff 10,ff 11,ff 12,ff 13] ?_
   iterate 4
    refine hP hS ?_
   refine hP1 hS HL0.out ?_
   iterate 4
    refine hP hS ?_
   refine hP1 hS HL1.out ?_
   refine hP hS ?_
   rw [Hsub.out]
   refine hP hS ?_
   rw [Hsub2.out]
   refine hP hS ?_
   refine hP hS ?_
   refine held_end ?_
   clear hS
   go_wp2
   go_ret
   exact takenT_err Htk.out (hg1.trans ((grown_drew w1 _).trans (grown_set w1.drew g 2 _))) hq ((Hb1s.out _).drew)
  rw [if_neg hlen] at htk
  have Htk:=Lib.hid htk
  have Hb1:=Lib.hid hb1
  have db:decide (l-q<rn)=false:=by simp;omega
  have hn63:rn<=9223372036854775807:=by omega
  have hwn:IntKind.i64.wrap (rn:Int)=(rn:Int):=i64_wrap _ (by omega) (by omega)
  obtain ⟨en,hen⟩:∃ en,en=q+rn:=⟨_,rfl⟩
  have hwa:IntKind.i64.wrap ((q:Int)+(rn:Int))=(en:Int):=by rw [i64_wrap _ (by omega) (by omega)];omega
  have hqe:q<=en:=by omega
  have hec:en<=c:=by omega
  have hel:en-q<=l-q:=by omega
  have hcut:=hr1.cut (k:=q) (cap:=c) hq hl
  rw [Nat.mul_one,u8s_drop] at hcut
  have hhead:=hcut.head (k:=en-q) hel
  rw [Nat.mul_one,u8s_take] at hhead
  have htxt:txt ((xs.drop q).take (en-q))=txt (((xs.drop at').drop rk).take rn):=by
   rw [List.drop_drop,Hqq.out,hen,Nat.add_sub_cancel_left]
  have Htxt:=Lib.hid htxt
  have Hen:=Lib.hid hen
  have Hwn:=Lib.hid hwn
  have Hwa:=Lib.hid hwa
  clear htk hb1 hwn hwa hb1s htxt hen hcut
  go_wp2
  have hS:w1.drew=w1.drew:=rfl
  refine hR (fun w'=>w'=w1.drew) [ff 0,ff 1,ff 2,ff 3,ff 4,ff 5,ff 6,ff 7,ff 8,ff 9,ff 10,ff 11,ff 12,ff 13] ?_
  iterate 4
   refine hP hS ?_
  refine hP1 hS HL0.out ?_
  iterate 4
   refine hP hS ?_
  refine hP1 hS HL1.out ?_
  refine hP hS ?_
  rw [Hsub.out]
  refine hP hS ?_
  rw [Hsub2.out]
  refine hP hS ?_
  refine hP hS ?_
  refine held_end ?_
  clear hS
  go_wp2
  have hS:w1.drew.drew=w1.drew.drew:=rfl
  have HL0:=Lib.hid (show ∀ w',w'=w1.drew.drew->w'.cell? ⟨g,0,none⟩=some (.slice A l c) from fun w' h=>by rw [h];exact HL0.out w1.drew rfl)
  have HL1:=Lib.hid (show ∀ w',w'=w1.drew.drew->w'.cell? ⟨g,1,none⟩=some (.int .i64 (q:Int)) from fun w' h=>by rw [h];exact HL1.out w1.drew rfl)
  refine hR (fun w'=>w'=w1.drew.drew) [ff 0,ff 1,ff 2,ff 3,ff 4,ff 5,ff 6,ff 7,ff 8,ff 9,ff 10,ff 11,ff 12,ff 13,ff 14,ff 15,ff 16,ff 17] ?_
  iterate 3
   refine hP hS ?_
  refine hP1 hS HL0.out ?_
  iterate 3
   refine hP hS ?_
  refine hP1 hS HL1.out ?_
  iterate 3
   refine hP hS ?_
  refine hP1 hS HL1.out ?_
  refine hP hS ?_
  refine hP hS ?_
  rw [Hwn.out]
  refine hP hS ?_
  rw [Hwa.out]
  refine hP hS ?_
  generalize (if c=q then A else Option.map (fun x=>x.add q) A)=A2 at hhead ⊢
  have HC:=Lib.hid (show ∀ w',w'=w1.drew.drew->(convert 35 9 (.slice A2 (en-q) (c-q))).run Tryz.prog w'=.ok (.string (txt ((xs.drop q).take (en-q)))) w' from fun w' h=>by
   rw [h]
   exact run_bytes_string w1.drew.drew 35 9 5 Tryz.underlying35 Tryz.underlying5 Tryz.underlying9 _ A2 (en-q) (c-q) _ hhead)
  refine hP1 hS HC.out ?_
  refine hP hS ?_
  refine held_end ?_
  clear hS
  rw [Htxt.out]
  have f1:=Hb1.out.frozen 1
  have c1:=Hb1.out.cell 1
  have hqr:q+rn<=9223372036854775807:=by have:=Hen.out;unfold maxLen at hc;omega
  have hend:Cut (w1.drew.drew.setCell ⟨g,1,none⟩ (.int .i64 ((q:Int)+(rn:Int)))) g A l c (at'+(rk+rn)) 0:=by
   have h:=Hb1.out.drew.drew.set_ 1 (.int .i64 ((q:Int)+(rn:Int)))
   have e:((at'+(rk+rn):Nat):Int)=(q:Int)+(rn:Int):=by have:=Hqq.out;omega
   unfold Cut
   rw [e]
   exact h
  have Hend:=Lib.hid hend
  clear hend
  generalize txt (((xs.drop at').drop rk).take rn)=s at Htk ⊢
  go_wp2
  go_ret
  unfold TakenT
  rw [Htk.out]
  exact ⟨hg1.trans ((grown_drew w1 _).trans ((grown_drew _ _).trans (grown_set _ g 1 _))),rfl,Hend.out⟩
 rw [if_pos hre] at htk
 have hn:((re:Int)==0)=false:=by simp;omega
 have hn2:((re:Int) != 0)=true:=by simp;omega
 have Htk:=Lib.hid htk
 have Hb1:=Lib.hid hb1
 clear htk hk3 hb1 hb1s
 go_wp2
 go_ret
 exact takenT_err Htk.out hg1 hq Hb1.out
end Go.Proofs.YtjpjalmilfgckaaGreatDoor
