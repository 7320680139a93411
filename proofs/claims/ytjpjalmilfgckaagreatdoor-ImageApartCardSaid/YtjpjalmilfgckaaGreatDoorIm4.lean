/- Part 4 of the walks, merged: each text under its own heading. Conditions: none of its own; each lemma states what it asks. -/
import Derived.Test.YtjpjalmilfgckaaGreatDoorIm3
import Derived.Laws.BitsLemmas
import Derived.RegionTactic
import Derived.WalkMore
import Derived.Lib.SlicesS
import Derived.Maps.OwnSet
import Derived.Maps.OwnOps
import Derived.StringKeys
import Derived.Deep.RegionHeld
set_option maxRecDepth 100000
set_option linter.unusedVariables false
set_option linter.unusedSimpArgs false
namespace Go.Proofs.YtjpjalmilfgckaaGreatDoor
def need (n:Nat):Nat:=(n+7) / 8
def byteOf:List Bool->Nat
 | []=>0
 | b::r=>(if b then 1 else 0)+2*byteOf r
def packF:Nat->List Bool->List UInt8
 | 0,_=>[]
 | f+1,l=>UInt8.ofNat (byteOf (l.take 8))::packF f (l.drop 8)
def packL (l:List Bool):List UInt8:=packF (need l.length) l
def bitsOf:Nat->Nat->List Bool
 | 0,_=>[]
 | k+1,c=>(c % 2==1)::bitsOf k (c / 2)
def allBits (b:List UInt8):List Bool:=b.flatMap fun c=>bitsOf 8 c.toNat
def countL (l:List Bool):Nat:=(l.filter id).length
def unpackN (b:List UInt8) (n:Nat):List Bool×Nat×Nat:=
 if b.length<need n then ([],0,3)
 else if ((allBits (b.take (need n))).drop n).any id then ([],0,140)
 else ((allBits (b.take (need n))).take n,need n,0)
def unpackL (b:List UInt8) (n:Int):List Bool×Nat×Nat:=
 if n<0\/1048576<n then ([],0,6) else unpackN b n.toNat
def sizeL (n:Int):Nat:=if n<0\/1048576<n then 0 else need n.toNat
@[simp] theorem packF_length:∀ (f:Nat) (l:List Bool),(packF f l).length=f
 | 0,_=>rfl
 | f+1,l=>by simp [packF,packF_length f]
theorem packL_length (l:List Bool):(packL l).length=need l.length:=packF_length _ _
@[simp] theorem bitsOf_length:∀ (k c:Nat),(bitsOf k c).length=k
 | 0,_=>rfl
 | k+1,c=>by simp [bitsOf,bitsOf_length k]
theorem allBits_nil:allBits []=[]:=rfl
theorem allBits_cons (c:UInt8) (b:List UInt8):allBits (c::b)=bitsOf 8 c.toNat++allBits b:=by simp [allBits]
@[simp] theorem allBits_length:∀ b:List UInt8,(allBits b).length=8*b.length
 | []=>rfl
 | c::b=>by rw [allBits_cons,List.length_append,allBits_length b];simp;omega
theorem byteOf_lt:∀ l:List Bool,byteOf l<2 ^ l.length
 | []=>by simp [byteOf]
 | b::r=>by
  have:=byteOf_lt r
  simp only [byteOf,List.length_cons,Nat.pow_succ]
  split<;>omega
theorem byteOf_lt8 (l:List Bool) (h:l.length<=8):byteOf l<256:=
 Nat.lt_of_lt_of_le (byteOf_lt l) (by
  have:2 ^ l.length<=2 ^ 8:=Nat.pow_le_pow_right (by omega) h
  omega)
theorem byteOf_append:∀ (l m:List Bool),byteOf (l++m)=byteOf l+2 ^ l.length*byteOf m
 | [],m=>by simp [byteOf]
 | b::r,m=>by
  simp only [List.cons_append,byteOf,byteOf_append r m,List.length_cons,Nat.pow_succ]
  rw [Nat.mul_add,Nat.add_assoc,Nat.mul_comm (2 ^ r.length) 2,<-Nat.mul_assoc]
theorem byteOf_falses:∀ m:Nat,byteOf (List.replicate m false)=0
 | 0=>rfl
 | m+1=>by simp [List.replicate_succ,byteOf,byteOf_falses m]
theorem byteOf_pad (l:List Bool) (m:Nat):byteOf (l++List.replicate m false)=byteOf l:=by
 rw [byteOf_append,byteOf_falses];omega
theorem byteOf_bits:∀ (k c:Nat),c<2 ^ k->byteOf (bitsOf k c)=c
 | 0,c,h=>by simp at h;simp [bitsOf,byteOf,h]
 | k+1,c,h=>by
  rw [Nat.pow_succ] at h
  simp only [bitsOf,byteOf,byteOf_bits k (c / 2) (by omega)]
  by_cases h1:c % 2=1<;>simp [h1]<;>omega
theorem bits_byteOf:∀ (l:List Bool) (m:Nat),bitsOf (l.length+m) (byteOf l)=l++List.replicate m false
 | [],m=>by
  simp only [List.length_nil,Nat.zero_add,byteOf,List.nil_append]
  induction m with
  | zero=>rfl
  | succ m ih=>simp [bitsOf,List.replicate_succ,ih]
 | b::r,m=>by
  have e:(b::r).length+m=(r.length+m)+1:=by simp;omega
  rw [e]
  simp only [bitsOf,byteOf,List.cons_append]
  have h1:((if b=true then 1 else 0)+2*byteOf r) / 2=byteOf r:=by split<;>omega
  have h2:(((if b=true then 1 else 0)+2*byteOf r) % 2==1)=b:=by cases b<;>simp<;>omega
  rw [h1,h2,bits_byteOf r m]
theorem ofNat_toNat' (n:Nat) (h:n<256):(UInt8.ofNat n).toNat=n:=by
 simp [Nat.mod_eq_of_lt h]
theorem allBits_packF:∀ (f:Nat) (l:List Bool),allBits (packF f l)=l.take (8*f)++List.replicate (8*f-l.length) false
 | 0,l=>by simp [packF,allBits_nil]
 | f+1,l=>by
  have hlt:=byteOf_lt8 (l.take 8) (List.length_take_le _ _)
  rw [packF,allBits_cons,ofNat_toNat' _ hlt,allBits_packF f]
  have hb:bitsOf 8 (byteOf (l.take 8))=l.take 8++List.replicate (8-(l.take 8).length) false:=by
   have ht:=List.length_take_le 8 l
   generalize l.take 8=t at ht ⊢
   have:=bits_byteOf t (8-t.length)
   rwa [show t.length+(8-t.length)=8 from by omega] at this
  rw [hb]
  rcases Nat.le_total 8 l.length with h | h
  ·have hz:8-(l.take 8).length=0:=by rw [List.length_take];omega
   rw [hz,List.replicate_zero,List.append_nil,<-List.append_assoc,List.length_drop]
   have e1:l.take 8++(l.drop 8).take (8*f)=l.take (8*(f+1)):=by
    rw [show 8*(f+1)=8+8*f from by omega,List.take_add]
   rw [e1]
   congr 2
   omega
  have hd:l.drop 8=[]:=List.drop_of_length_le h
  have ht:l.take 8=l:=List.take_of_length_le h
  have ht2:l.take (8*(f+1))=l:=List.take_of_length_le (by omega)
  rw [hd,ht,ht2]
  simp only [List.take_nil,List.nil_append,List.length_nil,Nat.sub_zero,List.append_assoc,List.replicate_append_replicate]
  congr 2
  omega
theorem packF_allBits:∀ b:List UInt8,packF b.length (allBits b)=b
 | []=>rfl
 | c::b=>by
  simp only [List.length_cons,packF,allBits_cons]
  rw [List.take_left' (by simp),List.drop_left' (by simp),packF_allBits b,byteOf_bits 8 c.toNat c.toNat_lt]
  simp
theorem packF_pad:∀ (f:Nat) (l:List Bool) (m:Nat),packF f (l++List.replicate m false)=packF f l
 | 0,_,_=>rfl
 | f+1,l,m=>by
  simp only [packF,List.take_append,List.drop_append,List.take_replicate,List.drop_replicate]
  rw [byteOf_pad,packF_pad f]
theorem need_le (n:Nat):n<=8*need n:=by unfold need;omega
theorem unpack_pack (l:List Bool) (r:List UInt8):unpackN (packL l++r) l.length=(l,need l.length,0):=by
 unfold unpackN
 have hlen:=packL_length l
 rw [if_neg (by rw [List.length_append];omega)]
 have ht:(packL l++r).take (need l.length)=packL l:=by rw [<-hlen];exact List.take_left
 have hb:allBits (packL l)=l++List.replicate (8*need l.length-l.length) false:=by
  rw [packL,allBits_packF,List.take_of_length_le (need_le _)]
 rw [ht,hb,List.drop_left,List.take_left]
 rw [if_neg (by simp)]
theorem falses_of (l:List Bool) (h:l.any id=false):l=List.replicate l.length false:=by
 rw [List.eq_replicate_iff]
 refine ⟨rfl,fun b hb=>?_⟩
 have:=List.any_eq_false.1 h b hb
 simpa using this
theorem unpack_only (b:List UInt8) (n:Nat):(∃ l,unpackN b n=(l,need n,0)/\l.length=n/\need n<=b.length/\packL l=b.take (need n))\/∃ e,unpackN b n=([],0,e)/\e≠0/\e<200:=by
 unfold unpackN
 by_cases h1:b.length<need n
 ·rw [if_pos h1];exact .inr ⟨3,rfl,by omega,by omega⟩
 rw [if_neg h1]
 by_cases h2:((allBits (b.take (need n))).drop n).any id=true
 ·rw [if_pos h2];exact .inr ⟨140,rfl,by omega,by omega⟩
 rw [if_neg h2]
 have hl:(b.take (need n)).length=need n:=by rw [List.length_take];omega
 have hln:((allBits (b.take (need n))).take n).length=n:=by
  rw [List.length_take,allBits_length,hl]
  have:=need_le n
  omega
 refine .inl ⟨_,rfl,hln,by omega,?_⟩
 have hf:=falses_of _ (by simpa using h2)
 have hall:allBits (b.take (need n))=(allBits (b.take (need n))).take n++List.replicate ((allBits (b.take (need n))).drop n).length false:=by
  conv=>lhs;rw [<-List.take_append_drop n (allBits (b.take (need n)))]
  rw [<-hf]
 rw [packL,hln]
 have:=packF_allBits (b.take (need n))
 rw [hl,hall,packF_pad] at this
 exact this
theorem countL_append (a b:List Bool):countL (a++b)=countL a+countL b:=by simp [countL]
theorem count_step (l:List Bool) (i:Nat) (b:Bool) (h:l[i]? = some b):countL (l.take (i+1))=countL (l.take i)+if b then 1 else 0:=by
 obtain ⟨hlt,rfl⟩:=List.getElem?_eq_some_iff.1 h
 rw [List.take_succ_eq_append_getElem hlt,countL_append]
 congr 1
 cases hb:l[i]<;>simp [countL]
theorem countL_le (l:List Bool):countL l<=l.length:=List.length_filter_le _ _
theorem packF_get:∀ (f:Nat) (l:List Bool) (j:Nat),j<f->(packF f l)[j]? = some (UInt8.ofNat (byteOf ((l.drop (8*j)).take 8)))
 | f+1,l,0,_=>by simp [packF]
 | f+1,l,j+1,h=>by
  simp only [packF,List.getElem?_cons_succ]
  rw [packF_get f (l.drop 8) j (by omega),List.drop_drop]
  congr 5
  omega
def chunk (l:List Bool) (i j:Nat):List Bool:=((l.take i).drop (8*j)).take 8
theorem chunk_other (l:List Bool) (i j:Nat) (h:j≠i / 8):chunk l (i+1) j=chunk l i j:=by
 unfold chunk
 rcases Nat.lt_or_ge j (i / 8) with hlt | hge
 ·rw [List.drop_take,List.drop_take,List.take_take,List.take_take]
  congr 1
  omega
 have h1:(l.take (i+1)).drop (8*j)=[]:=List.drop_of_length_le (by have:=List.length_take_le (i+1) l;omega)
 have h2:(l.take i).drop (8*j)=[]:=List.drop_of_length_le (by have:=List.length_take_le i l;omega)
 rw [h1,h2]
theorem chunk_here (l:List Bool) (i:Nat) (b:Bool) (h:l[i]? = some b):chunk l (i+1) (i / 8)=chunk l i (i / 8)++[b]/\(chunk l i (i / 8)).length=i % 8:=by
 obtain ⟨hlt,rfl⟩:=List.getElem?_eq_some_iff.1 h
 unfold chunk
 have hli:(l.take i).length=i:=by rw [List.length_take];omega
 have hle:8*(i / 8)<=i:=by omega
 constructor
 ·rw [List.take_succ_eq_append_getElem hlt,List.drop_append_of_le_length (by omega)]
  have h1:((l.take i).drop (8*(i / 8))).length<=7:=by rw [List.length_drop,hli];omega
  generalize (l.take i).drop (8*(i / 8))=t at h1 ⊢
  rw [List.take_of_length_le (l:=t++[l[i]]) (by simp;omega),List.take_of_length_le (l:=t) (by omega)]
 rw [List.length_take,List.length_drop,hli];omega
theorem packF_step (f:Nat) (l:List Bool) (i:Nat) (b:Bool) (h:l[i]? = some b) (hf:i / 8<f) :
  packF f (l.take (i+1))=(packF f (l.take i)).set (i / 8) (UInt8.ofNat (byteOf (chunk l i (i / 8))+if b then 2 ^ (i % 8) else 0))/\byteOf (chunk l i (i / 8))<2 ^ (i % 8) /\
   (packF f (l.take i))[i / 8]? = some (UInt8.ofNat (byteOf (chunk l i (i / 8)))):=by
 obtain ⟨h1,h2⟩:=chunk_here l i b h
 have hlt:=byteOf_lt (chunk l i (i / 8))
 rw [h2] at hlt
 refine ⟨?_,hlt,packF_get f _ _ hf⟩
 apply List.ext_getElem?
 intro j
 rcases Nat.lt_or_ge j f with hj | hj
 ·rw [packF_get f _ j hj]
  by_cases hji:j=i / 8
  ·subst hji
   rw [List.getElem?_set_self (by simpa using hf)]
   show some (UInt8.ofNat (byteOf (chunk l (i+1) (i / 8))))=_
   rw [h1,byteOf_append,h2]
   cases b<;>simp [byteOf]
  rw [List.getElem?_set_ne (by omega),packF_get f _ j hj]
  show some (UInt8.ofNat (byteOf (chunk l (i+1) j)))=some (UInt8.ofNat (byteOf (chunk l i j)))
  rw [chunk_other l i j hji]
 rw [List.getElem?_eq_none (by simpa using hj),List.getElem?_eq_none (by simpa using hj)]
theorem packF_false (f:Nat) (l:List Bool) (i:Nat) (h:l[i]? = some false) (hf:i / 8<f):packF f (l.take (i+1))=packF f (l.take i):=by
 obtain ⟨h1,_,h3⟩:=packF_step f l i false h hf
 rw [h1]
 simp only [Bool.false_eq_true,if_false,Nat.add_zero]
 obtain ⟨hlt,h4⟩:=List.getElem?_eq_some_iff.1 h3
 rw [<-h4,List.set_getElem_self]
theorem packF_none (f:Nat) (l:List Bool):packF f (l.take 0)=List.replicate f 0:=by
 rw [List.take_zero]
 induction f with
 | zero=>rfl
 | succ f ih=>simp only [packF,List.take_nil,List.drop_nil,List.replicate_succ,ih];rfl
theorem bitsOf_get:∀ (n c k:Nat),k<n->(bitsOf n c)[k]? = some (c / 2 ^ k % 2==1)
 | n+1,c,0,_=>by simp [bitsOf]
 | n+1,c,k+1,h=>by
  simp only [bitsOf,List.getElem?_cons_succ]
  rw [bitsOf_get n (c / 2) k (by omega),Nat.div_div_eq_div_mul,Nat.pow_succ,Nat.mul_comm 2]
theorem allBits_get:∀ (xs:List UInt8) (i k:Nat) (b:UInt8),xs[i]? = some b->k<8->(allBits xs)[8*i+k]? = some (b.toNat / 2 ^ k % 2==1)
 | c::xs,0,k,b,h,hk=>by
  obtain rfl:c=b:=by simpa using h
  rw [allBits_cons,List.getElem?_append_left (by simp;omega),Nat.mul_zero,Nat.zero_add]
  exact bitsOf_get 8 _ k hk
 | c::xs,i+1,k,b,h,hk=>by
  rw [allBits_cons,List.getElem?_append_right (by simp;omega)]
  have:=allBits_get xs i k b (by simpa using h) hk
  rw [<-this]
  congr 1
  simp
  omega
theorem allBits_take:∀ (xs:List UInt8) (s:Nat),allBits (xs.take s)=(allBits xs).take (8*s)
 | [],s=>by simp [allBits_nil]
 | c::xs,0=>by simp [allBits_nil]
 | c::xs,s+1=>by
  rw [List.take_succ_cons,allBits_cons,allBits_cons,allBits_take xs s]
  conv=>rhs;rw [List.take_append,List.take_of_length_le (l:=bitsOf 8 c.toNat) (by simp;omega)]
  rw [show 8*(s+1)-(bitsOf 8 c.toNat).length=8*s by simp;omega]
def Clear (xs:List UInt8) (m t:Nat):Prop:=(((allBits xs).take t).drop m).any id=false
theorem clear_low (xs:List UInt8) (m t:Nat) (h:t<=m):Clear xs m t:=by
 unfold Clear
 rw [List.drop_of_length_le (by have:=List.length_take_le t (allBits xs);omega)]
 rfl
theorem clear_next (xs:List UInt8) (m t:Nat) (h:Clear xs m t) (hb:(allBits xs)[t]? = some false):Clear xs m (t+1):=by
 obtain ⟨hlt,hb⟩:=List.getElem?_eq_some_iff.1 hb
 unfold Clear at *
 rw [List.take_succ_eq_append_getElem hlt,hb,List.drop_append,List.any_append,h]
 generalize m-((allBits xs).take t).length=d
 cases d<;>simp
theorem unpack_bad (xs:List UInt8) (m t:Nat) (hs:need m<=xs.length) (ht:m<=t) (ht2:t<8*need m) (hb:(allBits xs)[t]? = some true):unpackN xs m=([],0,140):=by
 unfold unpackN
 rw [if_neg (by omega),if_pos]
 rw [allBits_take,List.any_eq_true]
 refine ⟨true,?_,rfl⟩
 obtain ⟨hlt,hb⟩:=List.getElem?_eq_some_iff.1 hb
 refine List.mem_iff_getElem?.2 ⟨t-m,?_⟩
 rw [List.getElem?_drop,List.getElem?_take,if_pos (by omega),show m+(t-m)=t by omega,List.getElem?_eq_getElem hlt,hb]
theorem unpack_good (xs:List UInt8) (m:Nat) (hs:need m<=xs.length) (h:Clear xs m (8*need m)):unpackN xs m=((allBits xs).take m,need m,0):=by
 unfold unpackN
 unfold Clear at h
 rw [if_neg (by omega),allBits_take,if_neg (by simp [h]),List.take_take]
 congr 2
 have:=need_le m
 omega
theorem take_next (l:List Bool) (t:Nat) (b:Bool) (h:l[t]? = some b):l.take (t+1)=l.take t++[b]:=by
 obtain ⟨hlt,rfl⟩:=List.getElem?_eq_some_iff.1 h
 exact List.take_succ_eq_append_getElem hlt
theorem unpackL_only (b:List UInt8) (n:Int):(∃ l k,unpackL b n=(l,k,0)/\(l.length:Int)=n/\k<=b.length/\packL l=b.take k)\/∃ e,unpackL b n=([],0,e)/\e≠0/\e<200:=by
 unfold unpackL
 by_cases h:n<0\/1048576<n
 ·rw [if_pos h];exact .inr ⟨6,rfl,by omega,by omega⟩
 rw [if_neg h]
 rcases unpack_only b n.toNat with ⟨l,h1,h2,h3,h4⟩ | h1
 ·exact .inl ⟨l,_,h1,by omega,h3,h4⟩
 exact .inr h1
theorem unpackL_pack (l:List Bool) (r:List UInt8) (h:l.length<=1048576):unpackL (packL l++r) (l.length:Int)=(l,need l.length,0):=by
 unfold unpackL
 rw [if_neg (by omega),Int.toNat_natCast,unpack_pack]
end Go.Proofs.YtjpjalmilfgckaaGreatDoor
namespace Go.Proofs.YtjpjalmilfgckaaGreatDoor
open Go.RowKit
def intsB (l:List Cl):List UInt8:=l.flatMap fun c=>leb (zig c.2.1)
def rawsB (l:List Cl):List UInt8:=l.flatMap fun c=>leb c.2.2.size++c.2.2.data.toList
def bareB (k:Int) (l:List Cl):List UInt8:=if k=1 then packL (l.map fun c=>c.2.1==1) else if k=4 then putD (l.map fun c=>c.2.2) else if k=5 then rawsB l else intsB l
def someC (l:List Cl):List Cl:=l.filter fun c => !c.1
def allC (k:Int) (nl:Bool) (l:List Cl):Bool:=l.all fun c=>checkE k nl c==0
def putE (k:Int) (nl:Bool) (l:List Cl):Int:=if mayK k then (if allC k nl l then 0 else 90) else 2
def putB (k:Int) (nl:Bool) (l:List Cl) (xs:List UInt8):List UInt8:=xs++((if nl then packL (l.map fun c => !c.1) else [])++bareB k (someC l))
def putO (k:Int) (nl:Bool) (l:List Cl) (xs:List UInt8):List UInt8:=if putE k nl l=0 then putB k nl l xs else []
def boolC (b:Bool):Cl:=(false,if b then 1 else 0,⟨#[]⟩)
def intC (n:Int):Cl:=(false,n,⟨#[]⟩)
def txtC (s:ByteArray):Cl:=(false,0,s)
def nullC:Cl:=(true,0,⟨#[]⟩)
abbrev GotC:=Except Nat (List Cl×Nat)
def stepI (k:Int) (xs:List UInt8) (st:List Cl×Nat):GotC:=
 if (get (xs.drop st.2)).2.2=0 then
  (if isC k (intC (zag (get (xs.drop st.2)).1))=true then .ok (st.1++[intC (zag (get (xs.drop st.2)).1)],st.2+(get (xs.drop st.2)).2.1) else .error 90)
 else .error (get (xs.drop st.2)).2.2
def stepR (xs:List UInt8) (st:List Cl×Nat):GotC:=
 if (get (xs.drop st.2)).2.2=0 then
  (if 1024 < (get (xs.drop st.2)).1 then .error 5
   else if xs.length<st.2+(get (xs.drop st.2)).2.1+(get (xs.drop st.2)).1 then .error 3
   else .ok (st.1++[txtC (txt ((xs.drop (st.2+(get (xs.drop st.2)).2.1)).take (get (xs.drop st.2)).1))],st.2+(get (xs.drop st.2)).2.1+(get (xs.drop st.2)).1))
 else .error (get (xs.drop st.2)).2.2
def iterC (f:List Cl×Nat->GotC):Nat->GotC
 | 0=>.ok ([],0)
 | n+1=>match iterC f n with | .ok st=>f st | .error e=>.error e
theorem iterC_err {f:List Cl×Nat->GotC} {n m e:Nat} (h:iterC f n=.error e) (hm:n<=m):iterC f m=.error e:=by
 induction m with
 | zero => obtain rfl : n = 0 := by omega
           exact h
 | succ m ih=>
  rcases Nat.lt_or_ge m n with h2 | h2
  ·obtain rfl:n=m+1:=by omega
   exact h
  rw [iterC,ih h2]
theorem iterC_ok {f:List Cl×Nat->GotC} {n m:Nat} {st:List Cl×Nat} (h:iterC f m=.ok st) (hm:n<=m):∃ st',iterC f n=.ok st':=by
 rcases hn:iterC f n with e | st'
 ·rw [iterC_err hn hm] at h
  cases h
 exact ⟨st',rfl⟩
theorem iterC_succ {f:List Cl×Nat->GotC} {n:Nat} {st:List Cl×Nat} (h:iterC f n=.ok st):iterC f (n+1)=f st:=by rw [iterC,h]
def getB (k:Int) (xs:List UInt8) (n:Int):GotC:=
 if k=1 then (if (unpackL xs n).2.2=0 then .ok ((unpackL xs n).1.map boolC,(unpackL xs n).2.1) else .error (unpackL xs n).2.2)
 else if k=4 then (match getDI xs n 1024 with
  | .ok (l,s)=>if l.all (fun s=>Lib.validD s.data.toList)=true then .ok (l.map txtC,s) else .error 90
  | .error e=>.error e)
 else if k=5 then iterC (stepR xs) n.toNat else iterC (stepI k xs) n.toNat
def mergeL:List Bool->List Cl->List Cl
 | [],_=>[]
 | false::t,l=>nullC::mergeL t l
 | true::t,[]=>[]
 | true::t,c::l=>c::mergeL t l
def getC (k:Int) (nl:Bool) (xs:List UInt8) (n:Int):GotC:=
 if mayK k=false then .error 2
 else if n<0\/1048576<n then .error 6
 else if nl=false then getB k xs n
 else if (unpackL xs n).2.2=0 then
  (match getB k (xs.drop (unpackL xs n).2.1) (countL (unpackL xs n).1 : Int) with
   | .ok (l,s)=>.ok (mergeL (unpackL xs n).1 l,(unpackL xs n).2.1+s)
   | .error e=>.error e)
 else .error (unpackL xs n).2.2
theorem mergeL_step:∀ (t:List Bool) (l:List Cl) (i:Nat) (b:Bool),t[i]? = some b->countL t<=l.length ->
  mergeL (t.take (i+1)) l=mergeL (t.take i) l++[if b=true then (l[countL (t.take i)]?).getD nullC else nullC]
 | [],l,i,b,h,_=>by simp at h
 | a::t,l,0,b,h,hc=>by
  obtain rfl:a=b:=by simpa using h
  cases a with
  | false=>simp [mergeL]
  | true=>
   cases l with
   | nil=>simp [countL] at hc
   | cons c l=>simp [mergeL,countL]
 | false::t,l,i+1,b,h,hc=>by
  have:=mergeL_step t l i b (by simpa using h) (by simpa [countL] using hc)
  simpa [mergeL,countL] using this
 | true::t,[],i+1,b,h,hc=>by simp [countL] at hc
 | true::t,c::l,i+1,b,h,hc=>by
  have:=mergeL_step t l i b (by simpa using h) (by simpa [countL] using hc)
  simp only [List.take_succ_cons,mergeL,List.cons_append,List.cons.injEq,true_and]
  rw [this]
  simp [countL]
theorem mergeL_len:∀ (t:List Bool) (l:List Cl),countL t<=l.length->(mergeL t l).length=t.length
 | [],l,_=>rfl
 | false::t,l,h=>by simp [mergeL,mergeL_len t l (by simpa [countL] using h)]
 | true::t,[],h=>by simp [countL] at h
 | true::t,c::l,h=>by simp [mergeL,mergeL_len t l (by simpa [countL] using h)]
end Go.Proofs.YtjpjalmilfgckaaGreatDoor
namespace Go.Proofs.YtjpjalmilfgckaaGreatDoor
def txs (l:List ByteArray):List Value:=l.map Value.string
@[simp] theorem txs_length (l:List ByteArray):(txs l).length=l.length:=by simp [txs]
theorem txs_one (l:List ByteArray):∀ u∈txs l,u.oneCell'=true:=by
 intro u hu
 simp only [txs,List.mem_map] at hu
 obtain ⟨c,_,rfl⟩:=hu
 rfl
theorem txs_get (xs:List ByteArray) (k:Nat) (v:Value) (h:(txs xs)[k]? = some v):∃ c:ByteArray,xs[k]? = some c/\v=.string c:=by
 simp only [txs,List.getElem?_map,Option.map_eq_some_iff] at h
 obtain ⟨c,h1,h2⟩:=h
 exact ⟨c,h1,h2.symm⟩
theorem tlen {w:World} {B n:Nat} {A:Option Addr} {l:List ByteArray} (h:Reads w B 1 A n (txs l)):l.length=n:=by
 have:=h.1
 simpa using this
def ins (l:List Int):List Value:=l.map (Value.int .i64)
@[simp] theorem ins_length (l:List Int):(ins l).length=l.length:=by simp [ins]
theorem ins_take (l:List Int) (k:Nat):(ins l).take k=ins (l.take k):=by simp [ins,List.map_take]
theorem ins_one (l:List Int):∀ u∈ins l,u.oneCell'=true:=by
 intro u hu
 simp only [ins,List.mem_map] at hu
 obtain ⟨c,_,rfl⟩:=hu
 rfl
end Go.Proofs.YtjpjalmilfgckaaGreatDoor
namespace Go.Proofs.YtjpjalmilfgckaaGreatDoor
open Go.RowKit
theorem text_info:(Tryz.prog.info? 9).map (fun i=>(i.zero,i.size,i.bytes))=some (some (.string ⟨#[]⟩),1,16):=by kernel_rfl
theorem int_info:(Tryz.prog.info? 3).map (fun i=>(i.zero,i.size,i.bytes))=some (some (.int .i64 0),1,8):=by kernel_rfl
set_option maxHeartbeats 400000 in
theorem copyInts_any (A:Option Addr) (n c:Nat) (l:List Int) (w:World) (hr:Reads w w.heap.size 1 A n (ins l)) (hn:n<=1099511627776) :
  Calls Tryz.prog 116 #[.slice A n c] w fun e w'=>∃ A' c',e=.returned (.slice A' n c')/\n<=c'/\c'<=maxLen /\
   w'.ownsRow w.heap.size 3 1 (.slice A' n c') n (ins l)/\Below w.heap.size w w':=by
 obtain ⟨i0,hi0,hz0,hz1,hz2⟩:=info_parts int_info
 go_enter Tryz.func116,Tryz.ntmps116
 go_wp2_with (at_builtin
              refine wpList_append_any _ rfl (.tmp 4) (.tmp 5) 28 rfl w.heap.size 3 i0 (.int .i64 0) 1 8 Tryz.underlying28 hi0 hz0 hz1 hz2 rfl (by decide) none 0 0 [] rfl (World.ownsRow_nil _ _ _ _) A n c (ins l) rfl hr (ins_one l) (by simp only [maxLen];omega) (by omega) (Nat.le_refl _) ?_
              intro A2 c2 w2 hown2 hb2 hg2 hc2 hm2
              simp only [Nat.zero_add,List.nil_append] at hown2 hc2)
 go_ret
 exact ⟨A2,c2,by simp,hc2,hm2,hown2,hb2⟩
end Go.Proofs.YtjpjalmilfgckaaGreatDoor
namespace Go.Proofs.YtjpjalmilfgckaaGreatDoor
open Go.RowKit
open Go.Maps (Keyed)
def MapS (P:Program) (k e:TypeId) (w:World) (g n m:Nat) (f:ByteArray->Option Int):Prop:=
 ∃ D:DataW Unit,w.ownsMap P k (plainElem P e) g n D/\Maps.size D=m/\∀ s:ByteArray,Maps.has D (.string s.data.toList)=(f s).isSome/\∀ z x,f s=some x->D.atKey (.string s.data.toList) z=.lit (.int .i64 x)
theorem strLit_inj {s t:ByteArray} (h:(Lit.string s.data.toList)=.string t.data.toList):s=t:=by
 injection h with h
 cases s;cases t
 simp only at h
 congr 1
 exact Array.toList_inj.1 h
section
variable {P:Program} {k e t:TypeId} {w w':World} {g n m:Nat} {f:ByteArray->Option Int}
theorem MapS.made (w:World):MapS P k e (w.alloc (.map #[] 0)) w.heap.size 0 0 (fun _=>none):=
 ⟨.map [],World.ownsMap_made _ _ _ _,rfl,fun s=>⟨rfl,fun z x h=>by cases h⟩⟩
theorem MapS.lt (h:MapS P k e w g n m f):g<w.heap.size:=h.choose_spec.1.lt
theorem MapS.block (h:MapS P k e w g n m f) (hb:w'.heap[g]? = w.heap[g]?):MapS P k e w' g n m f:=by
 obtain ⟨D,⟨es,clock,h1,h2⟩,h3⟩:=h
 exact ⟨D,⟨es,clock,hb.trans h1,h2⟩,h3⟩
theorem MapS.below {B:Nat} (h:MapS P k e w g n m f) (hb:Below B w w') (hg:g<B):MapS P k e w' g n m f:=h.block (hb.block g hg)
theorem MapS.on (h:MapS P k e w g n m f) (hb:Below w.heap.size w w'):MapS P k e w' g n m f:=h.below hb h.lt
theorem MapS.al (h:MapS P k e w g n m f) (o:Obj):MapS P k e (w.alloc o) g n m f:=h.on ((Below.refl _ _).alloc (Nat.le_refl _) o)
theorem MapS.drew (h:MapS P k e w g n m f):MapS P k e w.drew g n m f:=h.block rfl
theorem MapS.grown (h:MapS P k e w g n m f) {row:Option Nat} (hg:w.grownBy w' row) (hne:some g≠row):MapS P k e w' g n m f:=by
 obtain ⟨D,h1,h2⟩:=h
 exact ⟨D,h1.kept hg hne,h2⟩
theorem MapS.set (h:MapS P k e w g n m f) {a:Addr} (ha:g≠a.block) (u:Value):MapS P k e (w.setCell a u) g n m f:=by
 obtain ⟨D,h1,h2⟩:=h
 exact ⟨D,h1.setCell ha u,h2⟩
theorem MapS.mono (h:MapS P k e w g n m f) {n':Nat} (hn:n<=n'):MapS P k e w g n' m f:=by
 obtain ⟨D,h1,h2⟩:=h
 exact ⟨D,h1.mono hn,h2⟩
theorem MapS.same (h:MapS P k e w g n m f) {f':ByteArray->Option Int} (hf:∀ s,f' s=f s):MapS P k e w g n m f':=by
 obtain rfl:f'=f:=funext hf
 exact h
theorem MapS.wf (h:MapS P k e w g n m f) (he:P.underlying e=some (.int .i64)) (hk:P.underlying k=some .string) (ht:P.underlying t=some (.map k e)) (hz:(zeroValue e).run P w=.ok (.int .i64 0) w) (s:ByteArray) (hs:s.size<=maxLen) :
  (Instr.lookup t (.map (some g)) (.string s) true).run P w=.ok (.tuple #[.int .i64 ((f s).getD 0),.bool (f s).isSome]) w /\
  (Instr.lookup t (.map (some g)) (.string s) false).run P w=.ok (.int .i64 ((f s).getD 0)) w:=by
 obtain ⟨D,h1,h2,h3⟩:=h
 have hkey:=WideMaps.keyOf_string_mk hk hs
 have hw0:(Lit.int .i64 0).wf=true:=by decide
 obtain ⟨v,ps,hrun,hv⟩:=h1.look_ok (string_keyed' hk) ht hz (plainElem_int he hw0) hkey
 obtain ⟨c,rfl,hc,hwc⟩:=plainElem_int_inv he hv
 simp only [Prod.mk.injEq] at hc
 obtain ⟨c',hrun',hat',-⟩:=h1.lookup_int (string_keyed' hk) ht he hz hkey
 have hcc:c'=c:=by
  have:=hat'.symm.trans hc.1
  simpa using this
 subst hcc
 have hval:c'=(f s).getD 0:=by
  rcases hf:f s with _ | x
  ·have hno:=(h3 s).1
   rw [hf] at hno
   have:=Maps.atKey_of_not_has hno (.lit (.int .i64 0))
   rw [this] at hat'
   simpa using hat'.symm
  have:=(h3 s).2 (.lit (.int .i64 0)) x hf
  rw [this] at hat'
  simpa using hat'.symm
 rw [hrun,hrun',(h3 s).1,hval]
 exact ⟨rfl,rfl⟩
 where string_keyed' {k:TypeId} (hk:P.underlying k=some .string):Keyed P k:=Maps.string_keyed hk
theorem MapS.len_ (h:MapS P k e w g n m f) (ht:P.underlying t=some (.map k e)) (ty:TypeId):(Builtin.len_ #[t] ty #[.map (some g)]).run P w=.ok (.int .i64 (m:Int)) w:=by
 obtain ⟨D,h1,h2,h3⟩:=h
 rw [h1.len ht ty,h2]
theorem MapS.store (h:MapS P k e w g n m f) (he:P.underlying e=some (.int .i64)) (hk:P.underlying k=some .string) (ht:P.underlying t=some (.map k e)) (hn:n<maxLen) (s:ByteArray) (hs:s.size<=maxLen) (x:Int) (hx:(Lit.int .i64 x).wf=true) :
  ∃ w',(Instr.mapUpdate t (.map (some g)) (.string s) (.int .i64 x)).run P w=.ok () w'/\MapS P k e w' g (n+1) (if (f s).isSome then m else m+1) (fun r=>if r=s then some x else f r)/\w.grownBy w' (some g):=by
 obtain ⟨D,h1,h2,h3⟩:=h
 have hkey:=WideMaps.keyOf_string_mk hk hs
 obtain ⟨w',hrun,hown,hg⟩:=h1.update (Maps.string_keyed hk) ht hn hkey (plainElem_int he hx)
 refine ⟨w',hrun,⟨_,hown,?_,fun r=>?_⟩,hg⟩
 ·rw [Maps.size_put (h1.tidy (Maps.string_keyed hk)),(h3 s).1,h2]
 by_cases hr:r=s
 ·subst hr
  dsimp only
  rw [if_pos rfl]
  refine ⟨Maps.has_put_same h1.isMap (by trivial) _,fun z y hy=>?_⟩
  rw [Maps.atKey_put_same h1.isMap (by trivial)]
  simpa using hy
 dsimp only
 rw [if_neg hr]
 have hne:(Lit.string r.data.toList)≠.string s.data.toList:=fun e=>hr (strLit_inj e)
 refine ⟨(Maps.has_put_other hne _).trans (h3 r).1,fun z y hy=>?_⟩
 rw [Maps.atKey_put_other hne]
 exact (h3 r).2 z y hy
end
section
variable {P:Program} {k e:TypeId} {w:World} {g n m:Nat} {f:ByteArray->Option Int}
theorem wpList_mapS_store {ops:Array Oper} {rest:List Oper} {o:Oper} {a:Act} {Q:Exit->Act->World->Prop}
  (hg:o.guard=none) (mo x v:Operand) (t:TypeId) (hop:o.op=Op.mapUpdate t mo x v) (h:MapS P k e w g n m f) (he:P.underlying e=some (.int .i64)) (hk:P.underlying k=some .string) (ht:P.underlying t=some (.map k e)) (hn:n<maxLen)
  (s:ByteArray) (hs:s.size<=maxLen) (y:Int) (hy:(Lit.int .i64 y).wf=true) (hm:a.eval mo=.map (some g)) (hx:a.eval x=.string s) (hv:a.eval v=.int .i64 y)
  (hK:∀ w',MapS P k e w' g (n+1) (if (f s).isSome then m else m+1) (fun r=>if r=s then some y else f r)->w.grownBy w' (some g)->wpList P ops Q rest (a.put o.dst undef) w') :
  wpList P ops Q (o::rest) a w:=by
 refine wpList_plain hg fun K' hK'=>?_
 obtain ⟨w',hrun,r1,r2⟩:=h.store he hk ht hn s hs y hy
 unfold Oper.wp
 simp [execOp,hop,hm,hx,hv,hrun,Result.andThen]
 exact hK' _ _ (hK w' r1 r2)
theorem wpList_mapS_ok {ops:Array Oper} {rest:List Oper} {o:Oper} {a:Act} {Q:Exit->Act->World->Prop}
  (hg:o.guard=none) (mo x:Operand) (t:TypeId) (hop:o.op=Op.lookup t mo x true) (h:MapS P k e w g n m f) (he:P.underlying e=some (.int .i64)) (hk:P.underlying k=some .string) (ht:P.underlying t=some (.map k e)) (hz:(zeroValue e).run P w=.ok (.int .i64 0) w)
  (s:ByteArray) (hs:s.size<=maxLen) (r:Option Int) (hr:f s=r) (hm:a.eval mo=.map (some g)) (hx:a.eval x=.string s)
  (hK:wpList P ops Q rest (a.put o.dst (.tuple #[.int .i64 (r.getD 0),.bool r.isSome])) w) :
  wpList P ops Q (o::rest) a w:=by
 subst hr
 refine wpList_plain hg fun K' hK'=>?_
 have hrun:=(h.wf he hk ht hz s hs).1
 unfold Oper.wp
 simp [execOp,hop,hm,hx,hrun,Result.andThen]
 exact hK' _ _ hK
theorem wpList_mapS_get {ops:Array Oper} {rest:List Oper} {o:Oper} {a:Act} {Q:Exit->Act->World->Prop}
  (hg:o.guard=none) (mo x:Operand) (t:TypeId) (hop:o.op=Op.lookup t mo x false) (h:MapS P k e w g n m f) (he:P.underlying e=some (.int .i64)) (hk:P.underlying k=some .string) (ht:P.underlying t=some (.map k e)) (hz:(zeroValue e).run P w=.ok (.int .i64 0) w)
  (s:ByteArray) (hs:s.size<=maxLen) (r:Option Int) (hr:f s=r) (hm:a.eval mo=.map (some g)) (hx:a.eval x=.string s)
  (hK:wpList P ops Q rest (a.put o.dst (.int .i64 (r.getD 0))) w) :
  wpList P ops Q (o::rest) a w:=by
 subst hr
 refine wpList_plain hg fun K' hK'=>?_
 have hrun:=(h.wf he hk ht hz s hs).2
 unfold Oper.wp
 simp [execOp,hop,hm,hx,hrun,Result.andThen]
 exact hK' _ _ hK
end
theorem own_apart {w w':World} {base base2:Nat} {e e2:TypeId} {v v2:Value} {n n2 size size2:Nat} {xs ys:List Value} (h:w.ownsRow base e size v n xs) (h2:w.ownsRow base2 e2 size2 v2 n2 ys) (hne:e≠e2) (hg:w.grownBy w' v2.ownBlock):w'.ownsRow base e size v n xs:=by
 refine h.kept hg ?_
 rcases h.2 with ⟨rfl,_⟩ | ⟨g,cap,cur,rfl,_,hh,_⟩
 ·exact .inl rfl
 right
 rcases h2.2 with ⟨rfl,_⟩ | ⟨g2,cap2,cur2,rfl,_,hh2,_⟩
 ·simp [Value.ownBlock]
 simp only [Value.ownBlock,ne_eq,Option.some.injEq]
 rintro rfl
 rw [hh] at hh2
 injection hh2 with hh2
 injection hh2 with _ h3
 exact hne h3
theorem MapS.apart {P:Program} {k e:TypeId} {w:World} {g n m:Nat} {f:ByteArray->Option Int} (h:MapS P k e w g n m f) {base:Nat} {e2:TypeId} {size n2:Nat} {v:Value} {ys:List Value} (h2:w.ownsRow base e2 size v n2 ys):some g≠v.ownBlock:=by
 obtain ⟨D,⟨es,clock,h1,-⟩,-⟩:=h
 rcases h2.2 with ⟨rfl,_⟩ | ⟨g2,cap2,cur2,rfl,_,hh2,_⟩
 ·simp [Value.ownBlock]
 simp only [Value.ownBlock,ne_eq,Option.some.injEq]
 rintro rfl
 rw [h1] at hh2
 injection hh2 with hh2
 cases hh2
theorem own_map {P:Program} {k e:TypeId} {w w':World} {g n m:Nat} {f:ByteArray->Option Int} (h:MapS P k e w g n m f) {base:Nat} {e2:TypeId} {size n2:Nat} {v:Value} {ys:List Value} (h2:w.ownsRow base e2 size v n2 ys) (hg:w.grownBy w' (some g)):w'.ownsRow base e2 size v n2 ys:=
 h2.kept hg (.inr (h.apart h2).symm)
end Go.Proofs.YtjpjalmilfgckaaGreatDoor
namespace Go.Proofs.YtjpjalmilfgckaaGreatDoor
open Go.RowKit
def nns (l:List Nat):List Value:=l.map fun (n:Nat)=>Value.int .i64 (n:Int)
@[simp] theorem nns_length (l:List Nat):(nns l).length=l.length:=by simp [nns]
def Parted (l:List ByteArray) (w:World) (e:Ending) (w':World):Prop:=
 ∃ (A:Option Addr) (c:Nat) (A2:Option Addr) (c2:Nat),e=.returned (.tuple #[.slice A (splitL l).1.length c,.slice A2 l.length c2])/\(splitL l).1.length<=c/\c<=maxLen/\l.length<=c2/\c2<=maxLen /\
  w'.ownsRow w.heap.size 9 1 (.slice A (splitL l).1.length c) (splitL l).1.length (txs (splitL l).1)/\w'.ownsRow w.heap.size 3 1 (.slice A2 l.length c2) l.length (nns (splitL l).2)/\Below w.heap.size w w'
theorem splitL_len (l:List ByteArray):(splitL l).1.length<=l.length/\(splitL l).2.length=l.length:=by
 have h:∀ (l:List ByteArray) (st:List ByteArray×List Nat),(l.foldl splitStep st).1.length<=st.1.length+l.length/\(l.foldl splitStep st).2.length=st.2.length+l.length:=by
  intro l
  induction l with
  | nil=>intro st;simp
  | cons s l ih=>
   intro st
   rw [List.foldl_cons]
   have:=ih (splitStep st s)
   have h2:(splitStep st s).1.length<=st.1.length+1/\(splitStep st s).2.length=st.2.length+1:=by
    unfold splitStep
    split<;>simp
   simp only [List.length_cons]
   omega
 have:=h l ([],[])
 simpa [splitL] using this
theorem splitL_take (l:List ByteArray) (k:Nat) (s:ByteArray) (h:l[k]? = some s):splitL (l.take (k+1))=splitStep (splitL (l.take k)) s:=by
 rw [List.take_add_one,h]
 exact splitL_snoc _ _
theorem one_text (s:ByteArray):∀ u∈[Value.string s],u.oneCell'=true:=txs_one [s]
end Go.Proofs.YtjpjalmilfgckaaGreatDoor
namespace Go.Proofs.YtjpjalmilfgckaaGreatDoor
open Go.RowKit
def atF (d:List ByteArray) (s:ByteArray):Option Int:=(placeL d s).map fun (k:Nat)=>(k:Int)
theorem atF_put (d:List ByteArray) (s:ByteArray) (h:placeL d s=none) (r:ByteArray):atF (d++[s]) r=if r=s then some (d.length:Int) else atF d r:=by
 have key:∀ (d:List ByteArray),placeL d s=none->placeL (d++[s]) r=if r=s then some d.length else placeL d r:=by
  intro d
  induction d with
  | nil=>
   intro _
   by_cases hr:r=s
   ·subst hr;simp [placeL]
   have hr':¬s=r:=fun e=>hr e.symm
   simp [placeL,hr,hr']
  | cons x d ih=>
   intro h
   rw [placeL] at h
   split at h
   ·cases h
   rename_i hne
   rw [Option.map_eq_none_iff] at h
   have:=ih h
   rw [List.cons_append,placeL,this]
   by_cases hr:r=s
   ·subst hr
    rw [if_neg hne,if_pos rfl,if_pos rfl]
    simp
   rw [if_neg hr,if_neg hr,placeL]
 unfold atF
 rw [key d h]
 by_cases hr:r=s
 ·rw [if_pos hr,if_pos hr];rfl
 rw [if_neg hr,if_neg hr]
theorem zero_int (w:World):(zeroValue 3).run Tryz.prog w=.ok (.int .i64 0) w:=by kernel_rfl
abbrev MapT (w:World) (g n m:Nat) (f:ByteArray->Option Int):Prop:=MapS Tryz.prog 9 3 w g n m f
set_option maxHeartbeats 1000000 in
theorem split_any (A:Option Addr) (n c:Nat) (l:List ByteArray) (w:World) (hr:Reads w w.heap.size 1 A n (txs l)) (hn:n<=1099511627776) (hsz:∀ s∈l,s.size<=maxLen) :
  Calls Tryz.prog 258 #[.slice A n c] w (Parted l w):=by
 obtain ⟨i0,hi0,hz0,hz1,hz2⟩:=info_parts text_info
 obtain ⟨j0,hj0,hy0,hy1,hy2⟩:=info_parts int_info
 have Hlen:=Lib.hid (tlen hr)
 have Hsz:=Lib.hid hsz
 clear hsz
 have hmm := @run_makeMap Tryz.prog
 go_enter Tryz.func258,Tryz.ntmps258
 go_wp2
 clear hmm
 go_loopw [2,3,12] (fun u v i wr=>∃ (k nd:Nat) (A1:Option Addr) (c1:Nat) (A2:Option Addr) (c2:Nat) (d:List ByteArray) (ns:List Nat),k<=n/\nd<=k/\i=.int .i64 (k:Int)/\u=.slice A1 nd c1/\v=.slice A2 k c2/\Hid (splitL (l.take k)=(d,ns)) /\
  wr.ownsRow w.heap.size 9 1 (.slice A1 nd c1) nd (txs d)/\wr.ownsRow w.heap.size 3 1 (.slice A2 k c2) k (nns ns)/\Hid (MapT wr w.heap.size k nd (atF d))/\Below w.heap.size w wr) (fun _ _ i _=>n-(intOf i).toNat)
 case atStart=>exact ⟨0,0,none,0,none,0,[],[],Nat.zero_le _,Nat.zero_le _,rfl,rfl,rfl,Lib.hid rfl,World.ownsRow_nil _ _ _ _,World.ownsRow_nil _ _ _ _,Lib.hid (MapS.same (MapS.made w) (fun s=>by rfl)),(Below.refl _ _).alloc (Nat.le_refl _) _⟩
 case round=>
  obtain ⟨k,nd,A1,c1,A2,c2,d,ns,hk,hnd,rfl,rfl,rfl,hs,hown,hown2,hmap,hB⟩:=hrel
  by_cases hlt:k<n
  ·obtain ⟨ad,v,rfl,hbk,hx,hcell⟩:=hr.at_ hlt
   rw [<-hB.cell (p:=ad.add k) (by rw [block_of_add];exact hbk)] at hcell
   obtain ⟨s,hs',rfl⟩:=txs_get _ _ _ hx
   have hst:=splitL_take l k s hs'
   rw [hs.out] at hst
   have hss:=Hsz.out s (List.mem_of_getElem? hs')
   clear hx hs' hbk hs
   have hbase:=hB.size
   have hs1:nd+1<=maxLen:=by simp only [maxLen];omega
   have hs2:(nd+1)*16<=70368744177664:=by omega
   have hs3:k+1<=maxLen:=by simp only [maxLen];omega
   have hs4:(k+1)*8<=70368744177664:=by omega
   have Hdl:=Lib.hid (show d.length=nd from by have:=hown.1;simpa using this)
   rcases hp:placeL d s with _ | j
   ·have hst2:splitL (l.take (k+1))=(d++[s],ns++[nd]):=by rw [hst];unfold splitStep;simp only [hp];rw [Hdl.out]
    have Hst:=Lib.hid hst2
    have Hat:=Lib.hid (show atF d s=none from by unfold atF;rw [hp];rfl)
    have hput:=atF_put d s hp
    rw [Hdl.out] at hput
    have Hput:=Lib.hid hput
    clear hst hst2 hp hput
    go_wp2_with (first
     | (at_lookup;refine wpList_mapS_ok rfl _ _ _ rfl hmap.out Tryz.underlying3 Tryz.underlying9 Tryz.underlying170 (zero_int _) s hss none Hat.out rfl rfl ?_)
     | (at_builtin
        refine wpList_append_any _ rfl (.tmp 29) (.tmp 31) 240 rfl w.heap.size 9 i0 (.string ⟨#[]⟩) 1 16 Tryz.underlying240 hi0 hz0 hz1 hz2 rfl (by decide) A1 nd c1 _ rfl (hown.alloc _) _ 1 1 [.string s] rfl (reads_new _ _ _) (one_text s) hs1 hs2 (by simp;omega) ?_
        intro A3 c3 w3 hown3 hb3 hg3 hc3 hm3
        replace hmap:=Lib.hid ((hmap.out.al (.cells #[.string s] 9)).grown hg3 ((hmap.out.al (.cells #[.string s] 9)).apart (hown.alloc _)))
        replace hown2:=own_apart (hown2.alloc (.cells #[.string s] 9)) (hown.alloc _) (by decide) hg3
        have hB3:=(hB.alloc hbase (.cells #[.string s] 9)).trans hb3
        have hbase3:=hB3.size)
     | (at_mapUpdate
        refine wpList_mapS_store rfl _ _ _ _ rfl hmap.out Tryz.underlying3 Tryz.underlying9 Tryz.underlying170 (by simp only [maxLen];omega) s hss (nd:Int) (by simp [Lit.wf,IntKind.min,IntKind.max,IntKind.signed,IntKind.bits];omega) rfl rfl rfl ?_
        intro w5 hmap5 hg5
        rw [Hat.out] at hmap5
        replace hmap5:=Lib.hid (MapS.same hmap5 (f':=atF (d++[s])) (fun r=>Hput.out r))
        replace hown3:=own_map hmap.out hown3 hg5
        replace hown2:=own_map hmap.out hown2 hg5
        have hB5:=hB3.grown hg5 hbase3 (by intro q hq;cases hq;exact Nat.le_refl _)
        have hbase5:=hB5.size
        clear hmap hg5)
     | (at_builtin
        refine wpList_append_any _ rfl (.tmp 33) (.tmp 35) 28 rfl w.heap.size 3 j0 (.int .i64 0) 1 8 Tryz.underlying28 hj0 hy0 hy1 hy2 rfl (by decide) A2 k c2 _ rfl (hown2.alloc _) _ 1 1 [.int .i64 (nd:Int)] rfl (reads_new _ _ _) (one_int _ _) hs3 hs4 (by simp;omega) ?_
        intro A4 c4 w4 hown4 hb4 hg4 hc4 hm4))
    rw [if_neg (by simp)] at hmap5
    have hmap4:=(hmap5.out.al (.cells #[.int .i64 (nd:Int)] 3)).grown hg4 ((hmap5.out.al (.cells #[.int .i64 (nd:Int)] 3)).apart (hown2.alloc _))
    replace hown3:=own_apart (hown3.alloc (.cells #[.int .i64 (nd:Int)] 3)) (hown2.alloc _) (by decide) hg4
    have hB4:=(hB5.alloc hbase5 (.cells #[.int .i64 (nd:Int)] 3)).trans hb4
    rw [show txs d++[Value.string s]=txs (d++[s]) from by simp [txs]] at hown3
    rw [show nns ns++[Value.int .i64 (nd:Int)]=nns (ns++[nd]) from by simp [nns]] at hown4
    go_roundw
    case rel=>exact ⟨k+1,nd+1,A3,c3,A4,c4,_,_,by omega,by omega,by go_num,rfl,rfl,Hst,hown3,hown4,Lib.hid hmap4,hB4⟩
    case measure=>simp [intOf];omega
   have hst2:splitL (l.take (k+1))=(d,ns++[j]):=by rw [hst];unfold splitStep;simp only [hp]
   have Hst:=Lib.hid hst2
   have Hat:=Lib.hid (show atF d s=some (j:Int) from by unfold atF;rw [hp];rfl)
   clear hst hst2 hp
   go_wp2_with (first
    | (at_lookup;refine wpList_mapS_ok rfl _ _ _ rfl hmap.out Tryz.underlying3 Tryz.underlying9 Tryz.underlying170 (zero_int _) s hss (some (j:Int)) Hat.out rfl rfl ?_)
    | (at_builtin
       refine wpList_append_any _ rfl (.tmp 33) (.tmp 35) 28 rfl w.heap.size 3 j0 (.int .i64 0) 1 8 Tryz.underlying28 hj0 hy0 hy1 hy2 rfl (by decide) A2 k c2 _ rfl (hown2.alloc _) _ 1 1 [.int .i64 (j:Int)] rfl (reads_new _ _ _) (one_int _ _) hs3 hs4 (by simp;omega) ?_
       intro A4 c4 w4 hown4 hb4 hg4 hc4 hm4))
   have hmap4:=(hmap.out.al (.cells #[.int .i64 (j:Int)] 3)).grown hg4 ((hmap.out.al (.cells #[.int .i64 (j:Int)] 3)).apart (hown2.alloc _))
   replace hown:=own_apart (hown.alloc (.cells #[.int .i64 (j:Int)] 3)) (hown2.alloc _) (by decide) hg4
   have hB4:=(hB.alloc hbase (.cells #[.int .i64 (j:Int)] 3)).trans hb4
   rw [show nns ns++[Value.int .i64 (j:Int)]=nns (ns++[j]) from by simp [nns]] at hown4
   go_roundw
   case rel=>exact ⟨k+1,nd,A1,c1,A4,c4,_,_,by omega,by omega,by go_num,rfl,rfl,Hst,hown,hown4,Lib.hid (hmap4.mono (Nat.le_succ k)),hB4⟩
   case measure=>simp [intOf];omega
  have hkn:k=n:=by omega
  subst hkn
  have hs2:=hs.out
  rw [List.take_of_length_le (by rw [Hlen.out];exact Nat.le_refl _)] at hs2
  have H2:=Lib.hid hs2
  have Hdl:=Lib.hid (show d.length=nd from by have:=hown.1;simpa using this)
  obtain ⟨_,_,hv,h1,h2⟩:=own_shape hown
  injection hv with hA hn hc'
  subst hA hc'
  obtain ⟨_,_,hv,h3,h4⟩:=own_shape hown2
  injection hv with hA hn hc'
  subst hA hc'
  clear hs2
  go_wp2
  go_ret2
  unfold Parted
  rw [H2.out,Hlen.out]
  simp only [Hdl.out]
  exact ⟨A1,c1,A2,c2,rfl,h1,h2,h3,h4,hown,hown2,hB⟩
end Go.Proofs.YtjpjalmilfgckaaGreatDoor
namespace Go.Proofs.YtjpjalmilfgckaaGreatDoor
open Go.RowKit
theorem splitL_mem (l:List ByteArray) (k:Nat):k<=l.length->(∀ s,s∈(splitL (l.take k)).1 ↔ s∈l.take k)/\((splitL (l.take k)).1.length=k ↔ (l.take k).Nodup):=by
 induction k with
 | zero=>intro _;simp [splitL]
 | succ k ih=>
  intro hk
  obtain ⟨h1,h2⟩:=ih (by omega)
  have hx:=List.getElem?_eq_getElem (show k<l.length by omega)
  have hle:=(splitL_len (l.take k)).1
  rw [List.length_take,Nat.min_eq_left (by omega)] at hle
  rw [splitL_take l k _ hx,List.take_add_one,hx]
  generalize l[k]=s at hx
  simp only [Option.toList_some]
  generalize l.take k=t at h1 h2 hle ⊢
  rcases hp:placeL (splitL t).1 s with _ | j
  ·have hs:splitStep (splitL t) s=((splitL t).1++[s],(splitL t).2++[(splitL t).1.length]):=by unfold splitStep;simp only [hp]
   have hno:=(placeL_none _ s).1 hp
   rw [h1] at hno
   rw [hs]
   refine ⟨fun r=>by simp [h1],?_⟩
   rw [List.length_append,List.nodup_append]
   simp only [List.length_cons,List.length_nil]
   constructor
   ·intro h
    refine ⟨h2.1 (by omega),by simp,fun a ha b hb=>?_⟩
    rw [List.mem_singleton] at hb
    subst hb
    exact fun e=>hno (e ▸ ha)
   intro h
   have:=h2.2 h.1
   omega
  have hs:splitStep (splitL t) s=((splitL t).1,(splitL t).2++[j]):=by unfold splitStep;simp only [hp]
  have hin:s∈t:=by
   rw [<-h1]
   exact List.mem_of_getElem? (placeL_some _ _ _ hp)
  rw [hs]
  refine ⟨fun r=>?_,?_⟩
  ·simp only [List.mem_append,List.mem_singleton,h1]
   exact ⟨fun h=>.inl h,fun h=>h.elim id fun e=>e ▸ hin⟩
  constructor
  ·intro h
   simp only at h
   omega
  intro h
  rw [List.nodup_append] at h
  exact absurd rfl (h.2.2 s hin s (by simp))
theorem outs_snoc (d:List ByteArray) (ns:List Nat) (n:Nat) (s:ByteArray) (h:d[n]? = some s):(ns++[n]).filterMap (d[·]?)=ns.filterMap (d[·]?)++[s]:=by
 rw [List.filterMap_append]
 simp [List.filterMap_cons,h]
theorem own_far {w:World} {base size n g:Nat} {e t:TypeId} {v:Value} {xs:List Value} {cs:Array Value} (h:w.ownsRow base e size v n xs) (hb:Blk w g t cs) (hne:e≠t) (i:Nat) (u:Value):(w.setCell ⟨g,i,none⟩ u).ownsRow base e size v n xs:=by
 rcases h.2 with ⟨rfl,h0⟩ | ⟨g2,cap,cur,rfl,h1,h2,h3⟩
 ·exact ⟨h.1,.inl ⟨rfl,h0⟩⟩
 refine ⟨h.1,.inr ⟨g2,cap,cur,rfl,h1,?_,h3⟩⟩
 have hg:g2≠g:=by
  rintro rfl
  unfold Blk at hb
  rw [h2] at hb
  injection hb with hb
  injection hb with _ h4
  exact hne h4
 exact (Below.heap_setCell w ⟨g,i,none⟩ u g2 hg).trans h2
theorem Blk.apart {w w':World} {base size n g:Nat} {e t:TypeId} {v:Value} {xs:List Value} {cs:Array Value} (hb:Blk w g t cs) (h:w.ownsRow base e size v n xs) (hne:e≠t) (hg:w.grownBy w' v.ownBlock):Blk w' g t cs:=by
 refine (hg.block g hb.lt ?_).trans hb
 rcases h.2 with ⟨rfl,h0⟩ | ⟨g2,cap,cur,rfl,h1,h2,h3⟩
 ·simp [Value.ownBlock]
 simp only [Value.ownBlock,ne_eq,Option.some.injEq]
 rintro rfl
 unfold Blk at hb
 rw [h2] at hb
 injection hb with hb
 injection hb with _ h4
 exact hne h4
theorem MapS.blk {P:Program} {k e:TypeId} {w:World} {g n m g2:Nat} {f:ByteArray->Option Int} (h:MapS P k e w g n m f) {t:TypeId} {cs:Array Value} (hb:Blk w g2 t cs):g≠g2:=by
 rintro rfl
 obtain ⟨D,⟨es,clock,h1,-⟩,-⟩:=h
 unfold Blk at hb
 rw [h1] at hb
 injection hb with hb
 cases hb
end Go.Proofs.YtjpjalmilfgckaaGreatDoor
namespace Go.Proofs.YtjpjalmilfgckaaGreatDoor
open Go.RowKit
abbrev Book (w:World) (g:Nat) (A:Option Addr) (m c:Nat) (u:Nat):Prop:=Blk w g 333 #[.slice A m c,.int .i64 (u:Int)]
set_option maxHeartbeats 400000 in
theorem btext_no (g:Nat) (A:Option Addr) (m c u:Nat) (y:Int) (w:World) (hb:Book w g A m c u) (hm:m<=maxLen) (hu:u<=m) (h:(u:Int)<y\/(m:Int)<=y) :
  Calls Tryz.prog 269 #[.pointer (some ⟨g,0,none⟩),.int .u64 y] w fun e w'=>e=.returned (.tuple #[.string ⟨#[]⟩,.int .i64 150])/\w=w':=by
 have c0:=hb.cell 0
 have c1:=hb.cell 1
 unfold maxLen at hm
 by_cases h1:(u:Int)<y
 ·go_enter Tryz.func269,Tryz.ntmps269
  go_wp2
  go_ret2
  exact ⟨rfl,rfl⟩
 have h2:(m:Int)<=y:=by omega
 go_enter Tryz.func269,Tryz.ntmps269
 go_wp2
 go_ret2
 exact ⟨rfl,rfl⟩
set_option maxHeartbeats 400000 in
theorem btext_yes (g:Nat) (A:Option Addr) (m c u n:Nat) (d:List ByteArray) (s:ByteArray) (w:World) (hb:Book w g A m c u) (hr:Reads w w.heap.size 1 A m (txs d)) (hm:m<=maxLen) (hu:u<=m) (h1:n<=u) (h2:n<m) (hs:d[n]? = some s) (hg:∀ ad,A=some ad->ad.block≠g) :
  Calls Tryz.prog 269 #[.pointer (some ⟨g,0,none⟩),.int .u64 (n:Int)] w fun e w'=>e=.returned (.tuple #[.string s,.int .i64 0])/\w'=if n=u then w.setCell ⟨g,1,none⟩ (.int .i64 ((u+1:Nat):Int)) else w:=by
 have c0:=hb.cell 0
 have c1:=hb.cell 1
 have f1:=hb.frozen 1
 have hbs:=hb.set_ 1 (.int .i64 ((u:Int)+1))
 have c0':=hbs.cell 0
 obtain ⟨ad,v,rfl,hbk,hx,hcell⟩:=hr.at_ h2
 obtain ⟨s',hs',rfl⟩:=txs_get _ _ _ hx
 obtain rfl:s'=s:=by rw [hs] at hs';exact (Option.some.inj hs').symm
 clear hx hs' hs
 unfold maxLen at hm
 have h3:¬(u:Int)<(n:Int):=by omega
 by_cases he:n=u
 ·subst he
  have hne:ad.block≠g:=hg ad rfl
  have hcell':(w.setCell ⟨g,1,none⟩ (.int .i64 ((n:Int)+1))).cell? (ad.add n)=some (.string s'):=by
   rw [World.cell?_setCell_far _ _ _ _ (by rw [block_of_add];exact hne.symm)];exact hcell
  clear hg
  go_enter Tryz.func269,Tryz.ntmps269
  go_wp2
  go_ret2
  exact ⟨rfl,by simp⟩
 have H:((n:Int)==(u:Int))=false:=by simp;omega
 clear hg
 go_enter Tryz.func269,Tryz.ntmps269
 go_wp2
 go_ret2
 exact ⟨rfl,rfl⟩
set_option maxHeartbeats 400000 in
theorem bend_any (g:Nat) (A:Option Addr) (m c u:Nat) (w:World) (hb:Book w g A m c u) (hm:m<=maxLen) (hu:u<=m) :
  Calls Tryz.prog 270 #[.pointer (some ⟨g,0,none⟩)] w fun e w'=>e=.returned (.int .i64 (if u<m then 150 else 0))/\Below w.heap.size w w':=by
 have c0:=hb.cell 0
 have c1:=hb.cell 1
 by_cases h:u<m
 ·have db:decide (u<m)=true:=by simp;omega
  have hB:=Below.refl w.heap.size w
  go_enter Tryz.func270,Tryz.ntmps270
  go_wp2
  go_region
  all_goals
   go_wp2
   go_ret
   exact ⟨rfl,hB.drew⟩
 have db:decide (u<m)=false:=by simp;omega
 have hB:=Below.refl w.heap.size w
 go_enter Tryz.func270,Tryz.ntmps270
 go_wp2
 go_region
 all_goals
  go_wp2
  go_ret
  exact ⟨rfl,hB.drew⟩
end Go.Proofs.YtjpjalmilfgckaaGreatDoor
