/- Part 7 of the walks, merged: each text under its own heading. Conditions: none of its own; each lemma states what it asks. -/
import Derived.Test.YtjpjalmilfgckaaGreatDoorIm6
import Derived.WalkKit
set_option linter.unusedVariables false
set_option linter.unusedSimpArgs false
namespace Go.Proofs.YtjpjalmilfgckaaGreatDoor
open Go.RowKit
theorem takeTexts_sizes (most:Int):∀ (k:Nat) (b:List UInt8) (d d':List ByteArray) (r:List UInt8),takeTexts most k b d=.ok (d',r)->(∀ x∈d,(x.size:Int)<=most)->∀ x∈d',(x.size:Int)<=most
 | 0,b,d,d',r,h,hd=>by
  simp only [takeTexts,Except.ok.injEq,Prod.mk.injEq] at h
  exact h.1 ▸ hd
 | k+1,b,d,d',r,h,hd=>by
  rw [takeTexts] at h
  split at h
  ·cases h
  split at h
  ·cases h
  rename_i h2
  split at h
  ·cases h
  rename_i h3
  split at h
  ·cases h
  refine takeTexts_sizes most k _ _ _ _ h ?_
  intro x hx
  rcases List.mem_append.1 hx with hx | hx
  ·exact hd x hx
  obtain rfl:x=txt ((b.drop (get b).2.1).take (get b).1):=by simpa using hx
  rw [<-bts_len,bts_txt,List.length_take]
  omega
theorem getDI_sizes (ys:List UInt8) (n most:Int) (t:List ByteArray) (s:Nat) (h:getDI ys n most=.ok (t,s)):∀ x∈t,(x.size:Int)<=most:=by
 unfold getDI at h
 split at h
 ·cases h
 unfold getN at h
 rcases hd:dictL ys n.toNat most with e | ⟨d,r⟩
 ·rw [hd] at h;cases h
 rw [hd] at h
 simp only at h
 have hds:∀ x∈d,(x.size:Int)<=most:=by
  unfold dictL at hd
  split at hd
  ·cases hd
  split at hd
  ·cases hd
  exact takeTexts_sizes most _ _ _ _ _ hd (by simp)
 rcases hk:takeNums d.length n.toNat r 0 [] with e | ⟨u,ns,q⟩
 ·rw [hk] at h;cases h
 rw [hk] at h
 simp only at h
 split at h
 ·cases h
 injection h with h
 injection h with h1 h2
 subst h1
 intro x hx
 obtain ⟨j,-,hj⟩:=List.mem_filterMap.1 hx
 exact hds x (List.mem_of_getElem? hj)
end Go.Proofs.YtjpjalmilfgckaaGreatDoor
namespace Go.Proofs.YtjpjalmilfgckaaGreatDoor
open Go.RowKit
structure Codec (f:List UInt8->List Cl×Nat->GotC) (put:Cl->List UInt8) (P:Cl->Prop):Prop where
 there:∀ c,P c->∀ p r l,f (p++(put c++r)) (l,p.length)=.ok (l++[c],p.length+(put c).length)
 cut:∀ c,P c->∀ p j l,j<(put c).length->f (p++(put c).take j) (l,p.length)=.error 3
 only:∀ xs l s l' s',s<=xs.length->f xs (l,s)=.ok (l',s')->∃ c,P c/\l'=l++[c]/\s'<=xs.length/\xs.drop s=put c++xs.drop s'/\s'=s+(put c).length
section
variable {f:List UInt8->List Cl×Nat->GotC} {put:Cl->List UInt8} {P:Cl->Prop}
theorem Codec.back (h:Codec f put P) (l:List Cl) (hP:∀ c∈l,P c) (r:List UInt8):∀ j,j<=l.length->iterC (f (l.flatMap put++r)) j=.ok (l.take j,((l.take j).flatMap put).length)
 | 0,_=>by simp [iterC]
 | j+1,hj=>by
  rw [iterC_succ (h.back l hP r j (by omega))]
  have hs:l=l.take j++l[j]::l.drop (j+1):=by
   rw [List.getElem_cons_drop,List.take_append_drop]
  have hx:l.flatMap put++r=(l.take j).flatMap put++(put l[j]++((l.drop (j+1)).flatMap put++r)):=by
   conv=>lhs;rw [hs]
   simp only [List.flatMap_append,List.flatMap_cons,List.append_assoc]
  rw [hx,h.there l[j] (hP _ (List.getElem_mem _)) _ _ _,List.take_add_one,List.getElem?_eq_getElem (by omega)]
  simp only [Option.toList_some,List.flatMap_append,List.flatMap_cons,List.flatMap_nil,List.append_nil,List.length_append]
theorem Codec.backs (h:Codec f put P) (l:List Cl) (hP:∀ c∈l,P c) (r:List UInt8):iterC (f (l.flatMap put++r)) l.length=.ok (l,(l.flatMap put).length):=by
 have:=h.back l hP r l.length (Nat.le_refl _)
 rwa [List.take_length] at this
theorem Codec.onlys (h:Codec f put P) (xs:List UInt8):∀ (n:Nat) (l:List Cl) (s:Nat),iterC (f xs) n=.ok (l,s)->l.length=n/\(∀ c∈l,P c)/\s<=xs.length/\s=(l.flatMap put).length/\xs=l.flatMap put++xs.drop s
 | 0,l,s,e=>by
  simp only [iterC,Except.ok.injEq,Prod.mk.injEq] at e
  obtain ⟨rfl,rfl⟩:=e
  simp
 | n+1,l,s,e=>by
  obtain ⟨⟨l0,s0⟩,h0⟩:=iterC_ok (n:=n) e (by omega)
  rw [iterC_succ h0] at e
  obtain ⟨i1,i2,i3,i4,i5⟩:=h.onlys xs n l0 s0 h0
  obtain ⟨c,q1,rfl,q3,q4,q5⟩:=h.only xs l0 s0 l s i3 e
  refine ⟨by simp [i1],?_,q3,?_,?_⟩
  ·intro x hx
   rcases List.mem_append.1 hx with hx | hx
   ·exact i2 x hx
   obtain rfl:x=c:=by simpa using hx
   exact q1
  ·rw [q5,i4]
   simp only [List.flatMap_append,List.flatMap_cons,List.flatMap_nil,List.append_nil,List.length_append]
  conv=>lhs;rw [i5,q4]
  simp only [List.flatMap_append,List.flatMap_cons,List.flatMap_nil,List.append_nil,List.append_assoc]
end
theorem codecI (k:Int) (h2:k=2\/k=3):Codec (stepI k) (fun c=>leb (zig c.2.1)) (fun c=>c.1=false/\isC k c=true):=by
 have key:∀ c:Cl,c.1=false->isC k c=true->c=intC c.2.1 /\ -9223372036854775808<=c.2.1/\c.2.1<=9223372036854775807:=by
  rintro ⟨u,n,s⟩ hu hc
  simp only at hu
  subst hu
  rcases h2 with rfl | rfl
  ·simp [isC] at hc
   obtain ⟨rfl,h3,h4⟩:=hc
   exact ⟨rfl,by simp only;omega,by simp only;omega⟩
  simp [isC] at hc
  obtain ⟨rfl,h3,h4⟩:=hc
  exact ⟨rfl,h3,h4⟩
 refine ⟨?_,?_,?_⟩
 ·rintro c ⟨hu,hc⟩ p r l
  obtain ⟨h3,h4,h5⟩:=key c hu hc
  have hg:get ((p++(leb (zig c.2.1)++r)).drop p.length)=(zig c.2.1,(leb (zig c.2.1)).length,0):=by
   rw [List.drop_left]
   exact get_leb _ (zig_lt _ h4 h5) _
  unfold stepI
  simp only
  rw [hg]
  simp only [zag_zig,if_true]
  rw [<-h3,if_pos hc]
 ·rintro c ⟨hu,hc⟩ p j l hj
  obtain ⟨h3,h4,h5⟩:=key c hu hc
  have hg:get ((p++(leb (zig c.2.1)).take j).drop p.length)=(0,0,3):=by
   rw [List.drop_left]
   exact get_cut _ _ (zig_lt _ h4 h5) hj
  unfold stepI
  simp only
  rw [hg]
  simp
 intro xs l s l' s' hs h
 unfold stepI at h
 simp only at h
 rcases get_only (xs.drop s) with ⟨n,e,q1,q2,q3⟩ | ⟨e,q1,q2,-⟩
 ·rw [e] at h
  simp only [if_true] at h
  split at h
  ·rename_i hc
   injection h with h
   injection h with e1 e2
   rw [List.length_drop] at q2
   refine ⟨intC (zag n),⟨rfl,hc⟩,e1.symm,by omega,?_,?_⟩
   ·simp only [intC,zig_zag]
    rw [<-e2,<-List.drop_drop]
    conv=>lhs;rw [<-List.take_append_drop (leb n).length (xs.drop s),<-q3]
   simp only [intC,zig_zag]
   exact e2.symm
  cases h
 rw [q1] at h
 simp only at h
 rw [if_neg q2] at h
 cases h
theorem codecR:Codec stepR (fun c=>leb c.2.2.size++c.2.2.data.toList) (fun c=>c.1=false/\isC 5 c=true):=by
 have key:∀ c:Cl,c.1=false->isC 5 c=true->c=txtC c.2.2/\c.2.2.size<=1024:=by
  rintro ⟨u,n,s⟩ hu hc
  simp only at hu
  subst hu
  simp [isC,sizeC] at hc
  obtain ⟨rfl,h3⟩:=hc
  exact ⟨rfl,h3⟩
 have hsz:∀ s:ByteArray,s.data.toList.length=s.size:=fun s=>Array.length_toList
 refine ⟨?_,?_,?_⟩
 ·rintro c ⟨hu,hc⟩ p r l
  obtain ⟨h3,h4⟩:=key c hu hc
  have hg:get ((p++((leb c.2.2.size++c.2.2.data.toList)++r)).drop p.length)=(c.2.2.size,(leb c.2.2.size).length,0):=by
   rw [List.drop_left,List.append_assoc]
   exact get_leb _ (by omega) _
  have hd:(p++((leb c.2.2.size++c.2.2.data.toList)++r)).drop (p.length+(leb c.2.2.size).length)=c.2.2.data.toList++r:=by
   rw [<-List.drop_drop,List.drop_left,List.append_assoc,List.drop_left]
  unfold stepR
  simp only
  rw [hg]
  simp only
  simp only [if_true]
  rw [if_neg (by omega),if_neg (by have:=hsz c.2.2;simp only [List.length_append];omega),hd,<-hsz,List.take_left]
  rw [show txtC (txt c.2.2.data.toList)=c from h3.symm]
  simp [Nat.add_assoc]
 ·rintro c ⟨hu,hc⟩ p j l hj
  obtain ⟨h3,h4⟩:=key c hu hc
  have hj2:=hj
  rw [List.length_append,hsz] at hj2
  unfold stepR
  simp only
  rw [List.drop_left]
  rcases Nat.lt_or_ge j (leb c.2.2.size).length with h | h
  ·rw [List.take_append_of_le_length (by omega),get_cut _ _ (by omega) h]
   simp
  rw [List.take_append,List.take_of_length_le h,get_leb _ (by omega)]
  simp only
  simp only [if_true]
  rw [if_neg (by omega),if_pos ?_]
  have:=hsz c.2.2
  simp only [List.length_append,List.length_take]
  omega
 intro xs l s l' s' hs h
 unfold stepR at h
 simp only at h
 rcases get_only (xs.drop s) with ⟨n,e,q1,q2,q3⟩ | ⟨e,q1,q2,-⟩
 ·rw [e] at h
  simp only [if_true] at h
  split at h
  ·cases h
  rename_i hn
  split at h
  ·cases h
  rename_i hl
  injection h with h
  injection h with e1 e2
  rw [List.length_drop] at q2
  have ht:(txt ((xs.drop (s+(leb n).length)).take n)).size=n:=by
   rw [<-hsz]
   show ((xs.drop (s+(leb n).length)).take n).length=n
   rw [List.length_take,List.length_drop]
   omega
  refine ⟨_,⟨rfl,?_⟩,e1.symm,by omega,?_,?_⟩
  ·simp only [isC,txtC,sizeC,ht]
   simp
   omega
  ·simp only [txtC,ht]
   show xs.drop s=leb n++(xs.drop (s+(leb n).length)).take n++xs.drop s'
   have hd:(xs.drop (s+(leb n).length)).take n++xs.drop (s+(leb n).length+n)=xs.drop (s+(leb n).length):=by
    rw [<-List.drop_drop (l:=xs) (i:=n) (j:=s+(leb n).length),List.take_append_drop]
   rw [<-e2,List.append_assoc,hd,<-List.drop_drop]
   conv=>lhs;rw [<-List.take_append_drop (leb n).length (xs.drop s),<-q3]
  simp only [txtC,ht,List.length_append]
  rw [hsz,ht]
  omega
 rw [q1] at h
 simp only at h
 rw [if_neg q2] at h
 cases h
def okC (k:Int) (l:List Cl):Prop:=∀ c∈l,c.1=false/\isC k c=true
theorem okC1 {c:Cl} (h:c.1=false/\isC 1 c=true):boolC (c.2.1==1)=c:=by
 obtain ⟨u,n,s⟩:=c
 obtain ⟨h1,h2⟩:=h
 simp only at h1
 subst h1
 simp [isC] at h2
 obtain ⟨rfl,h3,h4⟩:=h2
 rcases (show n=0\/n=1 by omega) with rfl | rfl<;>rfl
theorem okC4 {c:Cl} (h:c.1=false/\isC 4 c=true):txtC c.2.2=c/\c.2.2.size<=1024/\Lib.validD c.2.2.data.toList=true:=by
 obtain ⟨u,n,s⟩:=c
 obtain ⟨h1,h2⟩:=h
 simp only at h1
 subst h1
 simp [isC,sizeC] at h2
 obtain ⟨⟨rfl,h3⟩,h4⟩:=h2
 exact ⟨rfl,h3,h4⟩
theorem okC_bool (b:Bool):(boolC b).1=false/\isC 1 (boolC b)=true:=by cases b<;>simp [boolC,isC]
theorem getB_put (k:Int) (h1:1<=k) (h5:k<=5) (l:List Cl) (hP:okC k l) (hl:l.length<=1048576) (r:List UInt8):getB k (bareB k l++r) (l.length:Int)=.ok (l,(bareB k l).length):=by
 rcases (show k=1\/(k=2\/k=3)\/k=4\/k=5 by omega) with rfl | h | rfl | rfl
 ·have hu:=unpackL_pack (l.map fun c=>c.2.1==1) r (by simpa using hl)
  rw [List.length_map] at hu
  simp only [getB,bareB,if_true]
  rw [hu]
  simp only [if_true,List.map_map]
  rw [packL_length,List.length_map]
  congr 2
  refine (List.map_congr_left (g:=id) fun c hc=>?_).trans (List.map_id l)
  exact okC1 (hP c hc)
 ·have:=(codecI k h).backs l (fun c hc=>hP c hc) r
  have hk:¬k=1/\¬k=4/\¬k=5:=by omega
  simp only [getB,bareB,hk,if_false]
  simpa [intsB] using this
 ·have hz:∀ s∈l.map (fun c=>c.2.2),(s.size:Int)<=1024:=by
   intro s hs
   obtain ⟨c,hc,rfl⟩:=List.mem_map.1 hs
   have:=(okC4 (hP c hc)).2.1
   omega
  have hg:=getN_put (l.map fun c=>c.2.2) r 1024 (by simpa using hl) hz (fun s hs=>by have:=hz s hs;omega)
  rw [List.length_map] at hg
  have hd:getDI (putD (l.map fun c=>c.2.2)++r) (l.length:Int) 1024=.ok (l.map (fun c=>c.2.2),(putD (l.map fun c=>c.2.2)).length):=by
   unfold getDI
   rw [if_neg (by omega),Int.toNat_natCast,hg]
  have ha:(l.map fun c=>c.2.2).all (fun s=>Lib.validD s.data.toList)=true:=by
   rw [List.all_eq_true]
   intro s hs
   obtain ⟨c,hc,rfl⟩:=List.mem_map.1 hs
   exact (okC4 (hP c hc)).2.2
  have hm:(l.map fun c=>c.2.2).map txtC=l:=by
   rw [List.map_map]
   refine (List.map_congr_left (g:=id) fun c hc=>?_).trans (List.map_id l)
   exact (okC4 (hP c hc)).1
  simp only [getB,bareB,show ¬(4:Int)=1 by decide,if_false,if_true]
  rw [hd]
  simp only
  rw [if_pos ha,hm]
 have:=codecR.backs l (fun c hc=>hP c hc) r
 simp only [getB,bareB,show ¬(5:Int)=1 by decide,show ¬(5:Int)=4 by decide,if_false,if_true]
 simpa [rawsB] using this
theorem getB_only (k:Int) (h1:1<=k) (h5:k<=5) (xs:List UInt8) (n:Nat) (l:List Cl) (s:Nat) (h:getB k xs (n:Int)=.ok (l,s)):l.length=n/\okC k l/\s<=xs.length/\bareB k l=xs.take s:=by
 rcases (show k=1\/(k=2\/k=3)\/k=4\/k=5 by omega) with rfl | hk | rfl | rfl
 ·simp only [getB,if_true] at h
  rcases unpackL_only xs (n:Int) with ⟨t,m,e,q1,q2,q3⟩ | ⟨e,q1,q2,-⟩
  ·rw [e] at h
   simp only [if_true,Except.ok.injEq,Prod.mk.injEq] at h
   obtain ⟨rfl,rfl⟩:=h
   refine ⟨by rw [List.length_map];omega,?_,q2,?_⟩
   ·intro c hc
    obtain ⟨b,-,rfl⟩:=List.mem_map.1 hc
    exact okC_bool b
   simp only [bareB,if_true,List.map_map]
   rw [<-q3]
   congr 1
   refine (List.map_congr_left (g:=id) fun b hb=>?_).trans (List.map_id t)
   cases b<;>rfl
  rw [q1] at h
  simp only at h
  rw [if_neg q2] at h
  cases h
 ·have hk2:¬k=1/\¬k=4/\¬k=5:=by omega
  simp only [getB,hk2,if_false,Int.toNat_natCast] at h
  obtain ⟨q1,q2,q3,q4,q5⟩:=(codecI k hk).onlys xs n l s h
  refine ⟨q1,q2,q3,?_⟩
  simp only [bareB,hk2,if_false,intsB]
  rw [q4]
  conv=>rhs;rw [q5]
  rw [List.take_left]
 ·simp only [getB,show ¬(4:Int)=1 by decide,if_false,if_true] at h
  rcases hd:getDI xs (n:Int) 1024 with e | ⟨t,m⟩
  ·rw [hd] at h;cases h
  rw [hd] at h
  simp only at h
  split at h
  ·rename_i ha
   simp only [Except.ok.injEq,Prod.mk.injEq] at h
   obtain ⟨rfl,rfl⟩:=h
   obtain ⟨q1,q2,q3,q4,-⟩:=getDI_only xs (n:Int) 1024 t m hd
   have hz:=getDI_sizes xs (n:Int) 1024 t m hd
   rw [List.all_eq_true] at ha
   refine ⟨by rw [List.length_map];omega,?_,q3,?_⟩
   ·intro c hc
    obtain ⟨b,hb,rfl⟩:=List.mem_map.1 hc
    have h1:=hz b hb
    have h2:=ha b hb
    refine ⟨rfl,?_⟩
    simp [isC,txtC,sizeC,h2]
    omega
   simp only [bareB,show ¬(4:Int)=1 by decide,if_false,if_true,List.map_map]
   rw [<-q4]
   congr 1
   exact (List.map_congr_left (g:=id) fun b hb=>rfl).trans (List.map_id t)
  cases h
 simp only [getB,show ¬(5:Int)=1 by decide,show ¬(5:Int)=4 by decide,if_false,if_true,Int.toNat_natCast] at h
 obtain ⟨q1,q2,q3,q4,q5⟩:=codecR.onlys xs n l s h
 refine ⟨q1,q2,q3,?_⟩
 simp only [bareB,show ¬(5:Int)=1 by decide,show ¬(5:Int)=4 by decide,if_false,if_true,rawsB]
 rw [q4]
 conv=>rhs;rw [q5]
 rw [List.take_left]
theorem allC_iff (k:Int) (nl:Bool) (l:List Cl) (hk:mayK k=true):allC k nl l=true ↔ okC k (someC l)/\∀ c∈l,c.1=true->nl=true/\c=nullC:=by
 unfold allC okC someC
 rw [List.all_eq_true]
 have key:∀ c:Cl,(checkE k nl c==0)=true ↔ (c.1=false->isC k c=true)/\(c.1=true->nl=true/\c=nullC):=by
  rintro ⟨u,n,s⟩
  cases u with
  | false=>
   simp only [checkE,hk,if_true]
   by_cases hi:isC k (false,n,s)=true<;>simp [hi]
  | true=>
   simp only [checkE,hk,if_true]
   cases nl with
   | false=>simp
   | true=>
    by_cases hn:n=0/\s=⟨#[]⟩
    ·obtain ⟨rfl,rfl⟩:=hn
     simp [nullC]
    simp only [Bool.true_and,decide_eq_true_eq]
    rw [if_neg hn]
    simp only [nullC,Prod.mk.injEq,true_and]
    simp
    exact fun h=>(not_and.1 hn) h
 constructor
 ·intro h
  refine ⟨fun c hc=>?_,fun c hc hu=>((key c).1 (h c hc)).2 hu⟩
  obtain ⟨h1,h2⟩:=List.mem_filter.1 hc
  have h3:c.1=false:=by simpa using h2
  exact ⟨h3,((key c).1 (h c h1)).1 h3⟩
 rintro ⟨h1,h2⟩ c hc
 refine (key c).2 ⟨fun hu=>?_,h2 c hc⟩
 exact (h1 c (List.mem_filter.2 ⟨hc,by simp [hu]⟩)).2
theorem someC_le (l:List Cl):(someC l).length<=l.length:=List.length_filter_le _ _
theorem countL_there:∀ l:List Cl,countL (l.map fun c => !c.1)=(someC l).length
 | []=>rfl
 | c::l=>by
  have:=countL_there l
  unfold countL someC at *
  cases hc:c.1<;>simp [hc] at * <;> omega
theorem merge_some:∀ l:List Cl,(∀ c∈l,c.1=true->c=nullC)->mergeL (l.map fun c => !c.1) (someC l)=l
 | [],_=>rfl
 | c::l,h=>by
  have ih:=merge_some l (fun x hx=>h x (by simp [hx]))
  cases hc:c.1 with
  | false=>simp [someC,mergeL,hc] at *;exact ih
  | true=>
   have:=h c (by simp) hc
   simp [someC,mergeL,hc] at *
   exact ⟨this.symm,ih⟩
theorem some_merge:∀ (t:List Bool) (l:List Cl),(∀ c∈l,c.1=false)->countL t=l.length->someC (mergeL t l)=l/\(mergeL t l).map (fun c => !c.1)=t/\∀ c∈mergeL t l,c.1=true->c=nullC
 | [],l,h,hc=>by
  have:l=[]:=List.eq_nil_of_length_eq_zero (by simpa [countL] using hc.symm)
  subst this
  simp [mergeL,someC]
 | false::t,l,h,hc=>by
  obtain ⟨h1,h2,h3⟩:=some_merge t l h (by simpa [countL] using hc)
  refine ⟨by simpa [mergeL,someC,nullC] using h1,by simpa [mergeL,nullC] using h2,?_⟩
  intro c hm hu
  rcases List.mem_cons.1 hm with rfl | hm
  ·rfl
  exact h3 c hm hu
 | true::t,[],h,hc=>by simp [countL] at hc
 | true::t,c::l,h,hc=>by
  obtain ⟨h1,h2,h3⟩:=some_merge t l (fun x hx=>h x (by simp [hx])) (by simpa [countL] using hc)
  have hc0:=h c (by simp)
  refine ⟨by simp [mergeL,someC,hc0] at *;exact h1,by simp [mergeL,hc0] at *;exact h2,?_⟩
  intro x hm hu
  rcases List.mem_cons.1 hm with rfl | hm
  ·rw [hc0] at hu;cases hu
  exact h3 x hm hu
theorem someC_all (l:List Cl) (h:∀ c∈l,c.1=false):someC l=l:=List.filter_eq_self.2 fun c hc=>by simp [h c hc]
theorem getC_put (k:Int) (nl:Bool) (l:List Cl) (hk:mayK k=true) (ha:allC k nl l=true) (hl:l.length<=1048576) (r:List UInt8):getC k nl (putB k nl l []++r) (l.length:Int)=.ok (l,(putB k nl l []).length):=by
 obtain ⟨h1,h5⟩:1<=k/\k<=5:=by simpa [mayK] using hk
 obtain ⟨ho,hn⟩:=(allC_iff k nl l hk).1 ha
 have hs:=someC_le l
 unfold getC
 rw [if_neg (by simp [hk]),if_neg (by omega)]
 cases nl with
 | false=>
  have hsl:someC l=l:=someC_all l fun c hc=>by
   cases hu:c.1 with
   | false=>rfl
   | true=>exact absurd (hn c hc hu).1 (by simp)
  rw [hsl] at ho
  simp only [putB,Bool.false_eq_true,if_false,List.nil_append,if_true,hsl]
  exact getB_put k h1 h5 l ho hl r
 | true=>
  have hu:=unpackL_pack (l.map fun c => !c.1) (bareB k (someC l)++r) (by simpa using hl)
  rw [List.length_map] at hu
  simp only [putB,if_true,List.nil_append,List.append_assoc]
  rw [hu]
  simp only [Bool.true_eq_false,if_false,if_true]
  have hp:(packL (l.map fun c => !c.1)).length=need l.length:=by rw [packL_length,List.length_map]
  rw [<-hp,List.drop_left,countL_there,getB_put k h1 h5 (someC l) ho (by omega) r]
  simp only
  rw [merge_some l (fun c hc hu=>(hn c hc hu).2),List.length_append]
theorem getC_only (k:Int) (nl:Bool) (xs:List UInt8) (n:Int) (l:List Cl) (s:Nat) (h:getC k nl xs n=.ok (l,s)):mayK k=true/\(l.length:Int)=n/\l.length<=1048576/\s<=xs.length/\putB k nl l []=xs.take s/\allC k nl l=true:=by
 unfold getC at h
 split at h
 ·cases h
 rename_i hk
 have hk:mayK k=true:=by simpa using hk
 obtain ⟨h1,h5⟩:1<=k/\k<=5:=by simpa [mayK] using hk
 split at h
 ·cases h
 rename_i hn
 obtain ⟨m,rfl⟩:∃ m:Nat,n=(m:Int):=⟨n.toNat,by omega⟩
 cases nl with
 | false=>
  simp only [if_true] at h
  obtain ⟨q1,q2,q3,q4⟩:=getB_only k h1 h5 xs m l s h
  have hsl:someC l=l:=someC_all l fun c hc=>(q2 c hc).1
  refine ⟨hk,by omega,by omega,q3,by simp [putB,hsl,q4],(allC_iff k false l hk).2 ⟨by rw [hsl];exact q2,fun c hc hu=>?_⟩⟩
  rw [(q2 c hc).1] at hu
  cases hu
 | true=>
  simp only [Bool.true_eq_false,if_false] at h
  rcases unpackL_only xs (m:Int) with ⟨t,a,e,q1,q2,q3⟩ | ⟨e,q1,q2,-⟩
  ·rw [e] at h
   simp only [if_true] at h
   rcases hg:getB k (xs.drop a) (countL t:Int) with e2 | ⟨l2,s2⟩
   ·rw [hg] at h;cases h
   rw [hg] at h
   simp only [Except.ok.injEq,Prod.mk.injEq] at h
   obtain ⟨rfl,rfl⟩:=h
   obtain ⟨g1,g2,g3,g4⟩:=getB_only k h1 h5 _ _ l2 s2 hg
   obtain ⟨m1,m2,m3⟩:=some_merge t l2 (fun c hc=>(g2 c hc).1) g1.symm
   have hlen:=mergeL_len t l2 (by omega)
   rw [List.length_drop] at g3
   refine ⟨hk,by rw [hlen];exact q1,by rw [hlen];omega,by omega,?_,(allC_iff k true _ hk).2 ⟨by rw [m1];exact g2,fun c hc hu=>⟨rfl,m3 c hc hu⟩⟩⟩
   simp only [putB,if_true,List.nil_append]
   rw [m1,m2,g4,q3,List.take_add]
  rw [q1] at h
  simp only at h
  rw [if_neg q2] at h
  cases h
end Go.Proofs.YtjpjalmilfgckaaGreatDoor
namespace Go.Proofs.YtjpjalmilfgckaaGreatDoor
def crcPoly:Nat:=2197175160
def stepZ (r:Nat):Nat:=(r / 2) ^^^ (if r % 2=1 then crcPoly else 0)
def step4 (r:Nat):Nat:=stepZ (stepZ (stepZ (stepZ r)))
def byteR (r:Nat) (c:UInt8):Nat:=step4 (step4 (r ^^^ c.toNat))
def crcR (r:Nat) (xs:List UInt8):Nat:=xs.foldl byteR r
def crcU (s:Nat) (xs:List UInt8):Nat:=4294967295-crcR (4294967295-s) xs
def crcS (xs:List UInt8):Nat:=crcU 0 xs
def sumB (s:Nat):List UInt8:=[UInt8.ofNat s,UInt8.ofNat (s / 256),UInt8.ofNat (s / 65536),UInt8.ofNat (s / 16777216)]
def crcTab:List Nat:=[0,274646895,549293790,820201905,1098587580,1361435347,1640403810,1905808397,2197175160,2460548119,2722870694,2987750089,3280807620,3553878443,3811616794,4084100981]
theorem xor_half (a b:Nat):(a ^^^ b) / 2=(a / 2) ^^^ (b / 2):=by
 apply Nat.eq_of_testBit_eq
 intro i
 simp [Nat.testBit_div_two]
theorem xor_par (a b:Nat):(a ^^^ b) % 2=(a % 2+b % 2) % 2:=by
 have h0:(a ^^^ b).testBit 0=(a.testBit 0 ^^ b.testBit 0):=Nat.testBit_xor ..
 simp only [Nat.testBit_zero] at h0
 rcases Nat.mod_two_eq_zero_or_one a with ha | ha<;>rcases Nat.mod_two_eq_zero_or_one b with hb | hb<;>rcases Nat.mod_two_eq_zero_or_one (a ^^^ b) with hc | hc<;>simp [ha,hb,hc] at h0 ⊢
theorem stepZ_xor (a b:Nat):stepZ (a ^^^ b)=stepZ a ^^^ stepZ b:=by
 unfold stepZ
 rw [xor_half,xor_par]
 apply Nat.eq_of_testBit_eq
 intro i
 rcases Nat.mod_two_eq_zero_or_one a with ha | ha<;>rcases Nat.mod_two_eq_zero_or_one b with hb | hb<;>simp [ha,hb]
 all_goals cases (a / 2).testBit i<;>cases (b / 2).testBit i<;>cases crcPoly.testBit i<;>rfl
theorem stepZ_double (m:Nat):stepZ (2*m)=m:=by
 unfold stepZ
 rw [if_neg (by omega),Nat.xor_zero]
 omega
theorem step4_xor (a b:Nat):step4 (a ^^^ b)=step4 a ^^^ step4 b:=by
 unfold step4
 rw [stepZ_xor,stepZ_xor,stepZ_xor,stepZ_xor]
theorem step4_low (q:Nat):step4 (16*q)=q:=by
 unfold step4
 rw [show 16*q=2*(2*(2*(2*q))) by omega,stepZ_double,stepZ_double,stepZ_double,stepZ_double]
theorem split16 (r:Nat):(16*(r / 16)) ^^^ (r % 16)=r:=by
 apply Nat.eq_of_testBit_eq
 intro i
 have h16:(16:Nat)=2 ^ 4:=rfl
 rw [Nat.testBit_xor,h16,Nat.testBit_two_pow_mul,Nat.testBit_mod_two_pow,Nat.testBit_div_two_pow]
 by_cases hi:4<=i
 ·have h1:¬i<4:=by omega
  have h2:i-4+4=i:=by omega
  simp [hi,h1,h2]
 have h1:i<4:=by omega
 simp [hi,h1]
theorem step4_tab (l:Nat) (h:l<16):crcTab[l]? = some (step4 l):=by
 have:∀ k:Fin 16,crcTab[k.val]? = some (step4 k.val):=by decide +kernel
 exact this ⟨l,h⟩
theorem step4_half (r:Nat):step4 r=(r / 16) ^^^ step4 (r % 16):=by
 conv=>lhs;rw [<-split16 r]
 rw [step4_xor,step4_low]
theorem stepZ_lt {r:Nat} (h:r<4294967296):stepZ r<4294967296:=by
 unfold stepZ
 refine Nat.xor_lt_two_pow (n:=32) (by omega) ?_
 split<;>decide
theorem step4_lt {r:Nat} (h:r<4294967296):step4 r<4294967296:=stepZ_lt (stepZ_lt (stepZ_lt (stepZ_lt h)))
theorem xorb_lt {r:Nat} (h:r<4294967296) (c:UInt8):r ^^^ c.toNat<4294967296:=by
 have:=c.toNat_lt
 exact Nat.xor_lt_two_pow (n:=32) (by omega) (by omega)
theorem byteR_lt {r:Nat} (h:r<4294967296) (c:UInt8):byteR r c<4294967296:=step4_lt (step4_lt (xorb_lt h c))
theorem crcR_lt {r:Nat} (h:r<4294967296) (xs:List UInt8):crcR r xs<4294967296:=by
 induction xs generalizing r with
 | nil=>exact h
 | cons c xs ih=>exact ih (byteR_lt h c)
theorem crcU_lt (s:Nat) (xs:List UInt8):crcU s xs<4294967296:=by unfold crcU;omega
theorem crcR_append (r:Nat) (xs ys:List UInt8):crcR r (xs++ys)=crcR (crcR r xs) ys:=by unfold crcR;exact List.foldl_append
def stepsZ (r:Nat):Nat->Nat
 | 0=>r
 | k+1=>stepZ (stepsZ r k)
end Go.Proofs.YtjpjalmilfgckaaGreatDoor
namespace Go.Proofs.YtjpjalmilfgckaaGreatDoor
open Go.RowKit
abbrev Co:=Int×ByteArray×Int×Bool×Cl
abbrev It:=List Cl×Int
abbrev Ba:=Int×Int×List It
def mayCs (cs:List Co):Bool:=decide (1<=cs.length/\cs.length<=32)&&cs.all fun c=>mayK c.2.2.1
def cellsE:List Co->List Cl->Int
 | c::cs,x::r=>if checkE c.2.2.1 c.2.2.2.1 x=0 then cellsE cs r else checkE c.2.2.1 c.2.2.2.1 x
 | _,_=>0
def rowE (cs:List Co) (r:List Cl):Int:=if r.length=cs.length then cellsE cs r else 100
def itemsE (cs:List Co):List It->Int
 | []=>0
 | it::l=>if rowE cs it.1=0 then (if it.2=0 then 172 else itemsE cs l) else rowE cs it.1
def baB (cs:List Co) (b:Ba):Bool:=mayCs cs&&decide (0<=b.1/\b.1<=2147483647/\0<=b.2.1)
def batE (cs:List Co) (b:Ba):Int:=if baB cs b then (if 1048576<b.2.2.length then 5 else itemsE cs b.2.2) else 2
def BaOk (b:Ba):Prop:=b.2.1<=9223372036854775807/\∀ it∈b.2.2,-9223372036854775808<=it.2/\it.2<=9223372036854775807
def colC (l:List It) (k:Nat):List Cl:=l.map fun it=>(it.1[k]?).getD nullC
def headB (v s:Int) (n:Nat):List UInt8:=[77,83,1]++(leb v.toNat++(leb s.toNat++leb n))
def colB (cs:List Co) (l:List It) (k:Nat):List UInt8:=match cs[k]? with | some c=>putB c.2.2.1 c.2.2.2.1 (colC l k) [] | none=>[]
def colsB (cs:List Co) (l:List It) (j:Nat):List UInt8:=(List.range j).flatMap (colB cs l)
def wsB (l:List It):List UInt8:=l.flatMap fun it=>leb (zig it.2)
def bodyB (cs:List Co) (b:Ba):List UInt8:=headB b.1 b.2.1 b.2.2.length++(colsB cs b.2.2 cs.length++wsB b.2.2)
def encA (cs:List Co) (b:Ba):List UInt8:=bodyB cs b++sumB (crcS (bodyB cs b))
theorem colsB_succ (cs:List Co) (l:List It) (j:Nat):colsB cs l (j+1)=colsB cs l j++colB cs l j:=by simp [colsB,List.range_succ]
theorem sumB_len (s:Nat):(sumB s).length=4:=rfl
theorem encA_len (cs:List Co) (b:Ba):(encA cs b).length=(bodyB cs b).length+4:=by simp [encA,sumB_len]
abbrev Got (α:Type):=Except Nat α
def thenG {α β:Type} (g:Got α) (f:α->Got β):Got β:=match g with | .ok a=>f a | .error e=>.error e
@[simp] theorem thenG_ok {α β:Type} (a:α) (f:α->Got β):thenG (.ok a) f=f a:=rfl
@[simp] theorem thenG_err {α β:Type} (e:Nat) (f:α->Got β):thenG (.error e) f=.error e:=rfl
theorem thenG_eq {α β:Type} {g:Got α} {f:α->Got β} {b:β} (h:thenG g f=.ok b):∃ a,g=.ok a/\f a=.ok b:=by
 cases g with
 | error e=>cases h
 | ok a=>exact ⟨a,rfl,h⟩
def numD (most beyond:Nat) (xs:List UInt8):Got (Nat×List UInt8):=
 if (get xs).2.2=0 then (if (get xs).1<=most then .ok ((get xs).1,xs.drop (get xs).2.1) else .error beyond) else .error (get xs).2.2
def batR (xs:List UInt8):Got (Nat×Nat×Nat×List UInt8):=
 thenG (numD 2147483647 6 xs) fun p=>thenG (numD 9223372036854775807 6 p.2) fun q=>thenG (numD 1048576 5 q.2) fun r=>.ok (p.1,q.1,r.1,r.2)
def batD (xs:List UInt8):Got (Nat×Nat×Nat×List UInt8):=
 if xs.length<4 then .error 3
 else if sumB (crcS (xs.take (xs.length-4)))=xs.drop (xs.length-4) then
  (if (xs.take (xs.length-4)).take 3=[77,83,1] then batR ((xs.take (xs.length-4)).drop 3) else .error 171)
 else .error 170
def iterI {σ:Type} (f:Nat->σ->Got σ):Nat->σ->Got σ
 | 0,s=>.ok s
 | n+1,s=>thenG (iterI f n s) (f n)
abbrev TabS:=List (List Cl)×List UInt8
def colD (cs:List Co) (n:Int) (k:Nat) (s:TabS):Got TabS:=
 match cs[k]? with
 | some c=>thenG (getC c.2.2.1 c.2.2.2.1 s.2 n) fun p=>.ok (s.1++[p.1],s.2.drop p.2)
 | none=>.ok s
abbrev WeiS:=List Int×List UInt8
def weiD (_:Nat) (s:WeiS):Got WeiS:=
 if (get s.2).2.2=0 then (if zag (get s.2).1=0 then .error 172 else .ok (s.1++[zag (get s.2).1],s.2.drop (get s.2).2.1)) else .error (get s.2).2.2
def itemsT (t:List (List Cl)) (ws:List Int):List It:=(List.range ws.length).map fun i=>(t.map fun l=>(l[i]?).getD nullC,(ws[i]?).getD 0)
def restD (cs:List Co) (n:Nat) (xs:List UInt8):Got (List It×List UInt8):=
 thenG (iterI (colD cs (n:Int)) cs.length ([],xs)) fun t=>thenG (iterI weiD n ([],t.2)) fun w=>.ok (itemsT t.1 w.1,w.2)
def decB (cs:List Co) (xs:List UInt8):Got Ba:=
 if mayCs cs then thenG (batD xs) fun h=>thenG (restD cs h.2.2.1 h.2.2.2) fun r=>if r.2=[] then .ok ((h.1:Int),(h.2.1:Int),r.1) else .error 30
 else .error 2
theorem cellsE_zero:∀ (cs:List Co) (r:List Cl),cellsE cs r=0 ↔ ∀ (k:Nat) c x,cs[k]? = some c->r[k]? = some x->checkE c.2.2.1 c.2.2.2.1 x=0
 | [],r=>by simp [cellsE]
 | c::cs,[]=>by simp [cellsE]
 | c::cs,x::r=>by
  have ih:=cellsE_zero cs r
  unfold cellsE
  constructor
  ·intro h k d y hd hy
   split at h
   ·cases k with
    | zero=>
     simp only [List.getElem?_cons_zero,Option.some.injEq] at hd hy
     subst hd hy
     assumption
    | succ k=>exact ih.1 h k d y (by simpa using hd) (by simpa using hy)
   contradiction
  intro h
  have h0:=h 0 c x rfl rfl
  rw [if_pos h0]
  exact ih.2 fun k d y hd hy=>h (k+1) d y (by simpa using hd) (by simpa using hy)
theorem itemsE_zero (cs:List Co):∀ l:List It,itemsE cs l=0 ↔ ∀ it∈l,rowE cs it.1=0/\it.2≠0
 | []=>by simp [itemsE]
 | it::l=>by
  have ih:=itemsE_zero cs l
  unfold itemsE
  by_cases h1:rowE cs it.1=0
  ·by_cases h2:it.2=0
   ·simp [h1,h2]
   simp [h1,h2,ih]
  simp [h1]
structure Fits (cs:List Co) (b:Ba):Prop where
 may:mayCs cs=true
 v0:0<=b.1
 v1:b.1<=2147483647
 s0:0<=b.2.1
 rows:b.2.2.length<=1048576
 items:∀ it∈b.2.2,rowE cs it.1=0/\it.2≠0
theorem fits_iff (cs:List Co) (b:Ba):batE cs b=0 ↔ Fits cs b:=by
 unfold batE baB
 constructor
 ·intro h
  split at h
  ·rename_i h1
   simp only [Bool.and_eq_true,decide_eq_true_eq] at h1
   split at h
   ·cases h
   exact ⟨h1.1,h1.2.1,h1.2.2.1,h1.2.2.2,by omega,(itemsE_zero cs _).1 h⟩
  cases h
 intro h
 have h1:=h.may
 have h2:=h.v0
 have h3:=h.v1
 have h4:=h.s0
 have h5:=h.rows
 rw [if_pos (by simp [h1];omega),if_neg (by omega)]
 exact (itemsE_zero cs _).2 h.items
theorem mayCs_at {cs:List Co} {k:Nat} {c:Co} (h:mayCs cs=true) (hc:cs[k]? = some c):mayK c.2.2.1=true:=by
 unfold mayCs at h
 simp only [Bool.and_eq_true] at h
 exact List.all_eq_true.1 h.2 c (List.mem_of_getElem? hc)
theorem rowE_zero {cs:List Co} {r:List Cl} (h:rowE cs r=0):r.length=cs.length/\∀ (k:Nat) c x,cs[k]? = some c->r[k]? = some x->checkE c.2.2.1 c.2.2.2.1 x=0:=by
 unfold rowE at h
 split at h
 ·exact ⟨by assumption,(cellsE_zero cs r).1 h⟩
 cases h
theorem Fits.col {cs:List Co} {b:Ba} (h:Fits cs b) {k:Nat} {c:Co} (hc:cs[k]? = some c):allC c.2.2.1 c.2.2.2.1 (colC b.2.2 k)=true:=by
 unfold allC colC
 rw [List.all_eq_true]
 intro x hx
 obtain ⟨it,hit,rfl⟩:=List.mem_map.1 hx
 obtain ⟨hl,hck⟩:=rowE_zero (h.items it hit).1
 have hk:k<it.1.length:=by rw [hl];exact (List.getElem?_eq_some_iff.1 hc).1
 have hx:=List.getElem?_eq_getElem hk
 rw [hx,Option.getD_some,hck k c _ hc hx]
 rfl
theorem numD_put (most beyond n:Nat) (hn:n<=most) (hm:most<18446744073709551616) (r:List UInt8):numD most beyond (leb n++r)=.ok (n,r):=by
 unfold numD
 rw [get_leb n (by omega) r]
 simp [hn]
theorem numD_only {most beyond:Nat} {xs:List UInt8} {p:Nat×List UInt8} (h:numD most beyond xs=.ok p):p.1<=most/\xs=leb p.1++p.2:=by
 unfold numD at h
 rcases get_only xs with ⟨n,hg,-,hl,ht⟩ | ⟨e,hg,he,-⟩
 ·rw [hg] at h
  simp only [if_true] at h
  split at h
  ·cases h
   refine ⟨by assumption,?_⟩
   show xs=leb n++xs.drop (leb n).length
   conv=>lhs;rw [<-List.take_append_drop (leb n).length xs,<-ht]
  cases h
 rw [hg] at h
 simp [he] at h
theorem batR_put (v s n:Nat) (hv:v<=2147483647) (hs:s<=9223372036854775807) (hn:n<=1048576) (r:List UInt8):batR (leb v++(leb s++(leb n++r)))=.ok (v,s,n,r):=by
 unfold batR
 rw [numD_put _ _ v hv (by decide),thenG_ok,numD_put _ _ s hs (by decide),thenG_ok,numD_put _ _ n hn (by decide),thenG_ok]
theorem batR_only {xs:List UInt8} {h:Nat×Nat×Nat×List UInt8} (hh:batR xs=.ok h):h.1<=2147483647/\h.2.1<=9223372036854775807/\h.2.2.1<=1048576/\xs=leb h.1++(leb h.2.1++(leb h.2.2.1++h.2.2.2)):=by
 unfold batR at hh
 obtain ⟨p,hp,hh⟩:=thenG_eq hh
 obtain ⟨q,hq,hh⟩:=thenG_eq hh
 obtain ⟨r,hr,hh⟩:=thenG_eq hh
 cases hh
 obtain ⟨a1,a2⟩:=numD_only hp
 obtain ⟨b1,b2⟩:=numD_only hq
 obtain ⟨c1,c2⟩:=numD_only hr
 exact ⟨a1,b1,c1,by rw [a2,b2,c2]⟩
theorem iterI_back {α:Type} (f:Nat->List α×List UInt8->Got (List α×List UInt8)) (n:Nat) (a:Nat->α) (e:Nat->List UInt8)
  (h:∀ j,j<n->∀ t r,f j (t,e j++r)=.ok (t++[a j],r)):∀ j,j<=n->∀ r,iterI f j ([],(List.range j).flatMap e++r)=.ok ((List.range j).map a,r):=by
 intro j
 induction j with
 | zero=>intro _ r;rfl
 | succ j ih=>
  intro hj r
  rw [iterI,List.range_succ,List.flatMap_append,List.append_assoc,ih (by omega),thenG_ok]
  simp only [List.flatMap_cons,List.flatMap_nil,List.append_nil]
  rw [h j (by omega)]
  simp
theorem iterI_only {α:Type} (f:Nat->List α×List UInt8->Got (List α×List UInt8)) (n:Nat) (P:Nat->α->List UInt8->Prop)
  (h:∀ j,j<n->∀ t xs s,f j (t,xs)=.ok s->∃ a e,s.1=t++[a]/\xs=e++s.2/\P j a e) (xs:List UInt8) :
  ∀ j,j<=n->∀ s,iterI f j ([],xs)=.ok s->∃ es:List (List UInt8),s.1.length=j/\es.length=j/\xs=es.flatten++s.2/\∀ (i:Nat) a e,s.1[i]? = some a->es[i]? = some e->P i a e:=by
 intro j
 induction j with
 | zero=>
  intro _ s hs
  cases hs
  exact ⟨[],rfl,rfl,rfl,fun i a e ha=>by simp at ha⟩
 | succ j ih=>
  intro hj s hs
  rw [iterI] at hs
  obtain ⟨m,hm,hs⟩:=thenG_eq hs
  obtain ⟨es,h1,h2,h3,h4⟩:=ih (by omega) m hm
  obtain ⟨a,e,g1,g2,g3⟩:=h j (by omega) m.1 m.2 s hs
  refine ⟨es++[e],by rw [g1,List.length_append,h1];rfl,by rw [List.length_append,h2];rfl,by rw [h3,g2];simp,?_⟩
  intro i b d hb hd
  rw [g1] at hb
  by_cases hi:i<j
  ·rw [List.getElem?_append_left (by omega)] at hb hd
   exact h4 i b d hb hd
  have hij:i=j:=by
   have:=(List.getElem?_eq_some_iff.1 hd).1
   simp only [List.length_append,List.length_cons,List.length_nil] at this
   omega
  subst hij
  rw [List.getElem?_append_right (by omega),h1,Nat.sub_self] at hb
  rw [List.getElem?_append_right (by omega),h2,Nat.sub_self] at hd
  simp only [List.getElem?_cons_zero,Option.some.injEq] at hb hd
  subst hb hd
  exact g3
theorem Fits.cols_back {cs:List Co} {b:Ba} (h:Fits cs b) (r:List UInt8):iterI (colD cs (b.2.2.length:Int)) cs.length ([],colsB cs b.2.2 cs.length++r)=.ok ((List.range cs.length).map (colC b.2.2),r):=by
 refine iterI_back _ cs.length _ (colB cs b.2.2) (fun j hj t r=>?_) cs.length (Nat.le_refl _) r
 have hc:=List.getElem?_eq_getElem hj
 unfold colD colB
 rw [hc]
 have hg:=getC_put cs[j].2.2.1 cs[j].2.2.2.1 (colC b.2.2 j) (mayCs_at h.may hc) (h.col hc) (by rw [colC,List.length_map];exact h.rows) r
 rw [colC,List.length_map] at hg
 simp only [colC]
 rw [hg,thenG_ok]
 simp
theorem weis_back (l:List It) (hw:∀ it∈l,it.2≠0 /\ -9223372036854775808<=it.2/\it.2<=9223372036854775807) (r:List UInt8):iterI weiD l.length ([],wsB l++r)=.ok (l.map (·.2),r):=by
 have key:=iterI_back weiD l.length (fun j=>((l[j]?).map (·.2)).getD 0) (fun j=>leb (zig (((l[j]?).map (·.2)).getD 0))) (fun j hj t r=>by
  have hx:=List.getElem?_eq_getElem hj
  have hm:=hw l[j] (List.getElem_mem hj)
  rw [hx]
  simp only [Option.map_some,Option.getD_some]
  unfold weiD
  simp only
  rw [get_leb _ (zig_lt _ hm.2.1 hm.2.2),zag_zig]
  simp [hm.1]) l.length (Nat.le_refl _) r
 have h1:(List.range l.length).flatMap (fun j=>leb (zig (((l[j]?).map (·.2)).getD 0)))=wsB l:=by
  unfold wsB
  rw [List.flatMap_def,List.flatMap_def]
  congr 1
  refine List.ext_getElem (by simp) fun i h1 h2=>?_
  simp only [List.length_map,List.length_range] at h1
  simp [List.getElem?_eq_getElem h1]
 have h2:(List.range l.length).map (fun j=>((l[j]?).map (·.2)).getD 0)=l.map (·.2):=by
  refine List.ext_getElem (by simp) fun i h1 h2=>?_
  simp only [List.length_map,List.length_range] at h1
  simp [List.getElem?_eq_getElem h1]
 rw [h1,h2] at key
 exact key
theorem Fits.items_back {cs:List Co} {b:Ba} (h:Fits cs b):itemsT ((List.range cs.length).map (colC b.2.2)) (b.2.2.map (·.2))=b.2.2:=by
 unfold itemsT
 refine List.ext_getElem (by simp) fun i h1 h2=>?_
 have hm:=(h.items b.2.2[i] (List.getElem_mem h2)).1
 obtain ⟨hl,-⟩:=rowE_zero hm
 rw [List.getElem_map,List.getElem_range]
 refine Prod.ext ?_ ?_
 ·simp only [List.map_map]
  refine List.ext_getElem (by simp [hl]) fun k g1 g2=>?_
  simp only [List.length_map,List.length_range] at g1
  simp [colC,List.getElem?_eq_getElem h2,List.getElem?_eq_getElem g2]
 simp [List.getElem?_eq_getElem h2]
theorem Fits.rest_back {cs:List Co} {b:Ba} (h:Fits cs b) (hb:BaOk b) (r:List UInt8):restD cs b.2.2.length (colsB cs b.2.2 cs.length++(wsB b.2.2++r))=.ok (b.2.2,r):=by
 unfold restD
 rw [h.cols_back,thenG_ok,weis_back _ (fun it hit=>⟨(h.items it hit).2,hb.2 it hit⟩),thenG_ok,h.items_back]
theorem Fits.stream {cs:List Co} {b:Ba} (h:Fits cs b) (hb:BaOk b) (r:List UInt8) :
  thenG (batR ((bodyB cs b++r).drop 3)) (fun g=>thenG (restD cs g.2.2.1 g.2.2.2) fun q=>.ok ((g.1:Int),(g.2.1:Int),q))=.ok (b.1,b.2.1,b.2.2,r):=by
 have h0:=h.v0
 have h1:=h.v1
 have h2:=h.s0
 have h3:=hb.1
 have e:(bodyB cs b++r).drop 3=leb b.1.toNat++(leb b.2.1.toNat++(leb b.2.2.length++(colsB cs b.2.2 cs.length++(wsB b.2.2++r)))):=by
  simp [bodyB,headB]
 rw [e,batR_put _ _ _ (by omega) (by omega) h.rows,thenG_ok]
 simp only
 rw [h.rest_back hb,thenG_ok]
 simp only [Except.ok.injEq,Prod.mk.injEq,and_true]
 omega
theorem body_take3 (cs:List Co) (b:Ba) (r:List UInt8):(bodyB cs b++r).take 3=[77,83,1]:=by simp [bodyB,headB]
theorem Fits.back {cs:List Co} {b:Ba} (h:Fits cs b) (hb:BaOk b):decB cs (encA cs b)=.ok b:=by
 have hl:(encA cs b).length-4=(bodyB cs b).length:=by rw [encA_len];omega
 have ht:(encA cs b).take ((encA cs b).length-4)=bodyB cs b:=by rw [hl];unfold encA;exact List.take_left
 have hd:(encA cs b).drop ((encA cs b).length-4)=sumB (crcS (bodyB cs b)):=by rw [hl];unfold encA;exact List.drop_left
 have h3:=body_take3 cs b []
 rw [List.append_nil] at h3
 have hs:=h.stream hb []
 rw [List.append_nil] at hs
 unfold decB batD
 rw [if_pos h.may,if_neg (by rw [encA_len];omega),ht,hd,if_pos rfl,if_pos h3]
 obtain ⟨g,hg,hs⟩:=thenG_eq hs
 obtain ⟨q,hq,hs⟩:=thenG_eq hs
 rw [hg,thenG_ok,hq,thenG_ok]
 simp only [Except.ok.injEq,Prod.mk.injEq] at hs
 obtain ⟨a1,a2,a3⟩:=hs
 subst a3
 rw [if_pos rfl,a1,a2]
theorem batD_only {xs:List UInt8} {h:Nat×Nat×Nat×List UInt8} (hh:batD xs=.ok h):4<=xs.length/\sumB (crcS (xs.take (xs.length-4)))=xs.drop (xs.length-4)/\xs.take (xs.length-4)=[77,83,1]++(leb h.1++(leb h.2.1++(leb h.2.2.1++h.2.2.2))) /\
  h.1<=2147483647/\h.2.1<=9223372036854775807/\h.2.2.1<=1048576:=by
 unfold batD at hh
 split at hh
 ·cases hh
 split at hh
 ·rename_i h4 hs
  split at hh
  ·rename_i h3
   obtain ⟨a,b,c,d⟩:=batR_only hh
   refine ⟨by omega,hs,?_,a,b,c⟩
   rw [<-d,<-h3,List.take_append_drop]
  cases hh
 cases hh
theorem flatten_range {α:Type} (es:List (List α)):es.flatten=(List.range es.length).flatMap fun i=>(es[i]?).getD []:=by
 rw [List.flatMap_def]
 congr 1
 refine List.ext_getElem (by simp) fun i h1 h2=>?_
 simp [List.getElem?_eq_getElem h1]
theorem getC_len {k:Int} {nl:Bool} {xs:List UInt8} {n:Int} {l:List Cl} {s:Nat} (h:getC k nl xs n=.ok (l,s)):xs=putB k nl l []++xs.drop s:=by
 obtain ⟨-,-,-,-,hp,-⟩:=getC_only k nl xs n l s h
 rw [hp,List.take_append_drop]
theorem restD_only {cs:List Co} {n:Nat} {xs:List UInt8} {p:List It×List UInt8} (hm:mayCs cs=true) (hn:n<=1048576) (h:restD cs n xs=.ok p) :
  p.1.length=n/\xs=colsB cs p.1 cs.length++(wsB p.1++p.2)/\(∀ it∈p.1,rowE cs it.1=0/\it.2≠0 /\ -9223372036854775808<=it.2/\it.2<=9223372036854775807):=by
 unfold restD at h
 obtain ⟨t,ht,h⟩:=thenG_eq h
 obtain ⟨w,hw,h⟩:=thenG_eq h
 cases h
 obtain ⟨es,a1,a2,a3,a4⟩:=iterI_only (colD cs (n:Int)) cs.length (fun j l e=>∀ c,cs[j]? = some c->l.length=n/\e=putB c.2.2.1 c.2.2.2.1 l []/\allC c.2.2.1 c.2.2.2.1 l=true) (fun j hj t xs s hs=>by
  have hc:=List.getElem?_eq_getElem hj
  unfold colD at hs
  rw [hc] at hs
  obtain ⟨⟨l,k⟩,hg,hs⟩:=thenG_eq hs
  cases hs
  refine ⟨l,_,rfl,getC_len hg,fun c hc2=>?_⟩
  rw [hc] at hc2
  cases hc2
  obtain ⟨-,b2,-,-,-,b6⟩:=getC_only _ _ _ _ _ _ hg
  exact ⟨by omega,rfl,b6⟩) xs cs.length (Nat.le_refl _) t ht
 obtain ⟨fs,b1,b2,b3,b4⟩:=iterI_only weiD n (fun j x e=>e=leb (zig x)/\x≠0 /\ -9223372036854775808<=x/\x<=9223372036854775807) (fun j hj t xs s hs=>by
  unfold weiD at hs
  simp only at hs
  rcases get_only xs with ⟨m,hg,hm,hl,ht⟩ | ⟨e,hg,he,-⟩
  ·rw [hg] at hs
   simp only [if_true] at hs
   split at hs
   ·cases hs
   rename_i hz
   cases hs
   refine ⟨zag m,leb m,rfl,?_,by rw [zig_zag],hz,zag_bounds m hm⟩
   conv=>lhs;rw [<-List.take_append_drop (leb m).length xs,<-ht]
  rw [hg] at hs
  simp [he] at hs) t.2 n (Nat.le_refl _) w hw
 have hlen:(itemsT t.1 w.1).length=n:=by simp [itemsT,b1]
 have hat:∀ i it,(itemsT t.1 w.1)[i]? = some it->i<n/\it=(t.1.map fun l=>(l[i]?).getD nullC,(w.1[i]?).getD 0):=by
  intro i it hi
  have hlt:=(List.getElem?_eq_some_iff.1 hi).1
  rw [hlen] at hlt
  refine ⟨hlt,?_⟩
  simp only [itemsT,List.getElem?_map,b1,List.getElem?_range hlt,Option.map_some,Option.some.injEq] at hi
  exact hi.symm
 have hcol:∀ k c,cs[k]? = some c->∃ l,t.1[k]? = some l/\colC (itemsT t.1 w.1) k=l/\es[k]? = some (putB c.2.2.1 c.2.2.2.1 l [])/\l.length=n/\allC c.2.2.1 c.2.2.2.1 l=true:=by
  intro k c hc
  have hk:=(List.getElem?_eq_some_iff.1 hc).1
  have h1:=List.getElem?_eq_getElem (l:=t.1) (i:=k) (by omega)
  have h2:=List.getElem?_eq_getElem (l:=es) (i:=k) (by omega)
  obtain ⟨g1,g2,g3⟩:=a4 k _ _ h1 h2 c hc
  refine ⟨_,h1,?_,by rw [<-g2];exact h2,g1,g3⟩
  unfold colC itemsT
  rw [List.map_map]
  refine List.ext_getElem (by simp [b1,g1]) fun i q1 q2=>?_
  simp [h1,List.getElem?_eq_getElem q2]
 refine ⟨hlen,?_,?_⟩
 ·show xs=colsB cs (itemsT t.1 w.1) cs.length++(wsB (itemsT t.1 w.1)++w.2)
  have e1:es.flatten=colsB cs (itemsT t.1 w.1) cs.length:=by
   rw [flatten_range,a2,colsB,List.flatMap_def,List.flatMap_def]
   congr 1
   refine List.ext_getElem (by simp) fun k q1 q2=>?_
   simp only [List.length_map,List.length_range] at q1
   obtain ⟨l,-,g2,g3,-,-⟩:=hcol k _ (List.getElem?_eq_getElem q1)
   simp only [List.getElem_map,List.getElem_range,g3,Option.getD_some,colB,List.getElem?_eq_getElem q1,g2]
  have e2:fs.flatten=wsB (itemsT t.1 w.1):=by
   rw [flatten_range,b2,wsB,List.flatMap_def,List.flatMap_def]
   congr 1
   refine List.ext_getElem (by simp [hlen]) fun i q1 q2=>?_
   simp only [List.length_map,List.length_range] at q1
   have h1:=List.getElem?_eq_getElem (l:=w.1) (i:=i) (by omega)
   have h2:=List.getElem?_eq_getElem (l:=fs) (i:=i) (by omega)
   have g:=(b4 i _ _ h1 h2).1
   simp only [List.getElem_map,List.getElem_range,h2,Option.getD_some,itemsT,h1]
   exact g
  rw [a3,b3,e1,e2]
 intro it hit
 obtain ⟨i,hi⟩:=List.getElem?_of_mem hit
 obtain ⟨hlt,hie⟩:=hat i it hi
 have h1:=List.getElem?_eq_getElem (l:=w.1) (i:=i) (by omega)
 have h2:=List.getElem?_eq_getElem (l:=fs) (i:=i) (by omega)
 have g:=(b4 i _ _ h1 h2).2
 have hw2:it.2=w.1[i]:=by rw [hie,h1];rfl
 refine ⟨?_,by rw [hw2];exact g.1,by rw [hw2];exact g.2.1,by rw [hw2];exact g.2.2⟩
 unfold rowE
 have hl:it.1.length=cs.length:=by rw [hie];simp [a1]
 rw [if_pos hl,cellsE_zero]
 intro k c x hc hx
 obtain ⟨l,g1,-,-,g4,g5⟩:=hcol k c hc
 rw [hie] at hx
 simp only [List.getElem?_map,g1,Option.map_some,Option.some.injEq] at hx
 have hxl:=List.getElem?_eq_getElem (l:=l) (i:=i) (by omega)
 rw [hxl,Option.getD_some] at hx
 unfold allC at g5
 have:=List.all_eq_true.1 g5 l[i] (List.getElem_mem _)
 rw [<-hx]
 simpa using this
theorem decB_only {cs:List Co} {xs:List UInt8} {b:Ba} (h:decB cs xs=.ok b):Fits cs b/\BaOk b/\encA cs b=xs:=by
 unfold decB at h
 split at h
 ·rename_i hm
  obtain ⟨g,hg,h⟩:=thenG_eq h
  obtain ⟨q,hq,h⟩:=thenG_eq h
  split at h
  ·rename_i hnil
   cases h
   obtain ⟨a1,a2,a3,a4,a5,a6⟩:=batD_only hg
   obtain ⟨b1,b2,b3⟩:=restD_only hm a6 hq
   rw [hnil,List.append_nil] at b2
   have hbody:bodyB cs ((g.1:Int),(g.2.1:Int),q.1)=xs.take (xs.length-4):=by
    rw [a3,b2]
    simp [bodyB,headB,b1]
   refine ⟨⟨hm,by simp,by simp only;omega,by simp,by simp only;omega,fun it hit=>⟨(b3 it hit).1,(b3 it hit).2.1⟩⟩,⟨by simp only;omega,fun it hit=>(b3 it hit).2.2⟩,?_⟩
   unfold encA
   rw [hbody,a2,List.take_append_drop]
  cases h
 cases h
theorem encA_inj {cs:List Co} {a b:Ba} (ha:Fits cs a) (hao:BaOk a) (hb:Fits cs b) (hbo:BaOk b) (h:encA cs a=encA cs b):a=b:=by
 have h1:=ha.back hao
 rw [h,hb.back hbo] at h1
 cases h1
 rfl
theorem Fits.cut {cs:List Co} {b:Ba} (h:Fits cs b) (hb:BaOk b) (j:Nat) (hj:j<(encA cs b).length):∃ e,decB cs ((encA cs b).take j)=.error e:=by
 rcases hd:decB cs ((encA cs b).take j) with e | a
 ·exact ⟨e,rfl⟩
 exfalso
 obtain ⟨ha,hao,he⟩:=decB_only hd
 have h1:=ha.stream hao (sumB (crcS (bodyB cs a))++(encA cs b).drop j)
 have h2:=h.stream hb (sumB (crcS (bodyB cs b)))
 rw [<-List.append_assoc,show bodyB cs a++sumB (crcS (bodyB cs a))=(encA cs b).take j from he,List.take_append_drop] at h1
 rw [show bodyB cs b++sumB (crcS (bodyB cs b))=encA cs b from rfl,h1] at h2
 simp only [Except.ok.injEq,Prod.mk.injEq] at h2
 have hab:a=b:=Prod.ext h2.1 (Prod.ext h2.2.1 h2.2.2.1)
 rw [hab] at he
 have:=congrArg List.length he
 rw [List.length_take] at this
 omega
end Go.Proofs.YtjpjalmilfgckaaGreatDoor
namespace Go.Proofs.YtjpjalmilfgckaaGreatDoor
def numB:List UInt8->Nat
 | []=>0
 | c::xs=>c.toNat+2 ^ 8*numB xs
theorem add_xor {c k:Nat} (m:Nat) (h:c<2 ^ k):c+2 ^ k*m=c ^^^ (2 ^ k*m):=by
 apply Nat.eq_of_testBit_eq
 intro i
 rw [Nat.add_comm,Nat.testBit_two_pow_mul_add m h,Nat.testBit_xor,Nat.testBit_two_pow_mul]
 by_cases hi:i<k
 ·have:¬k<=i:=by omega
  simp [hi,this]
 have h1:k<=i:=by omega
 have h2:c.testBit i=false:=Nat.testBit_lt_two_pow (Nat.lt_of_lt_of_le h (Nat.pow_le_pow_right (by decide) h1))
 simp [hi,h1,h2]
theorem stepsZ_add (r a b:Nat):stepsZ r (a+b)=stepsZ (stepsZ r a) b:=by
 induction b with
 | zero=>rfl
 | succ b ih=>rw [<-Nat.add_assoc,stepsZ,ih,stepsZ]
theorem stepsZ_lin (a b k:Nat):stepsZ (a ^^^ b) k=stepsZ a k ^^^ stepsZ b k:=by
 induction k with
 | zero=>rfl
 | succ k ih=>rw [stepsZ,ih,stepZ_xor,stepsZ,stepsZ]
theorem stepsZ_shift (m k:Nat):stepsZ (2 ^ k*m) k=m:=by
 induction k generalizing m with
 | zero=>simp [stepsZ]
 | succ k ih=>
  rw [stepsZ,show 2 ^ (k+1)*m=2 ^ k*(2*m) by rw [Nat.pow_succ,Nat.mul_assoc],ih,stepZ_double]
theorem byteR_steps (r:Nat) (c:UInt8):byteR r c=stepsZ (r ^^^ c.toNat) 8:=rfl
theorem crcR_num (r:Nat) (xs:List UInt8):crcR r xs=stepsZ (r ^^^ numB xs) (8*xs.length):=by
 induction xs generalizing r with
 | nil=>simp [crcR,numB,stepsZ]
 | cons c xs ih=>
  show crcR (byteR r c) xs=_
  rw [ih,numB,add_xor _ (by have:=c.toNat_lt;omega),List.length_cons,show 8*(xs.length+1)=8+8*xs.length by omega,stepsZ_add,<-Nat.xor_assoc,stepsZ_lin (r ^^^ c.toNat),stepsZ_shift,byteR_steps]
theorem stepZ_zero {x:Nat} (h:x<4294967296) (hz:stepZ x=0):x=0:=by
 unfold stepZ at hz
 have h2:x / 2=if x % 2=1 then crcPoly else 0:=by
  apply Nat.eq_of_testBit_eq
  intro i
  have:=congrArg (fun n=>Nat.testBit n i) hz
  simp only [Nat.testBit_xor,Nat.zero_testBit] at this
  revert this
  cases (x / 2).testBit i<;>cases (Nat.testBit (if x % 2=1 then crcPoly else 0) i)<;>simp
 split at h2
 ·unfold crcPoly at h2;omega
 omega
theorem stepsZ_zero {x:Nat} (h:x<4294967296) (k:Nat) (hz:stepsZ x k=0):x=0:=by
 induction k with
 | zero=>exact hz
 | succ k ih=>
  refine ih (stepZ_zero ?_ hz)
  clear ih hz
  induction k with
  | zero=>exact h
  | succ k ih=>exact stepZ_lt ih
theorem xor_same {a b:Nat} (h:a ^^^ b=a):b=0:=by
 apply Nat.eq_of_testBit_eq
 intro i
 have:=congrArg (fun n=>Nat.testBit n i) h
 simp only [Nat.testBit_xor] at this
 revert this
 cases a.testBit i<;>cases b.testBit i<;>simp
theorem burst_none (r:Nat) (xs ys:List UInt8) (bits at_:Nat) (hl:ys.length=xs.length) (hb:bits<4294967296) (ha:at_+32<=8*xs.length) (hn:numB ys=numB xs ^^^ (2 ^ at_*bits)) (h:crcR r ys=crcR r xs):bits=0:=by
 rw [crcR_num,crcR_num,hl,hn,<-Nat.xor_assoc,stepsZ_lin] at h
 have h2:=xor_same h
 rw [show 8*xs.length=at_+(8*xs.length-at_) by omega,stepsZ_add,stepsZ_shift] at h2
 exact stepsZ_zero hb _ h2
theorem numB_sum (s:Nat) (h:s<4294967296):numB (sumB s)=s:=by
 simp only [sumB,numB,UInt8.toNat_ofNat']
 omega
theorem xor_rest (r:Nat) (h:r<4294967296):r ^^^ (4294967295-r)=4294967295:=by
 apply Nat.eq_of_testBit_eq
 intro i
 have h1:4294967295-r=2 ^ 32-(r+1):=by omega
 have h2:(4294967295:Nat)=2 ^ 32-1:=rfl
 rw [Nat.testBit_xor,h1,Nat.testBit_two_pow_sub_succ h,show (4294967295:Nat)=2 ^ 32-1 from rfl,Nat.testBit_two_pow_sub_one]
 by_cases hi:i<32
 ·simp [hi]
 have:r.testBit i=false:=Nat.testBit_lt_two_pow (Nat.lt_of_lt_of_le h (Nat.pow_le_pow_right (n:=2) (by decide) (by omega:32<=i)))
 simp [hi,this]
def sumOk (xs:List UInt8):Prop:=4<=xs.length/\sumB (crcS (xs.take (xs.length-4)))=xs.drop (xs.length-4)
theorem sumOk_reg {xs:List UInt8} (h:sumOk xs):crcR 4294967295 xs=stepsZ 4294967295 32:=by
 obtain ⟨h4,hs⟩:=h
 have e:xs=xs.take (xs.length-4)++sumB (crcS (xs.take (xs.length-4))):=by rw [hs,List.take_append_drop]
 generalize xs.take (xs.length-4)=m at e
 rw [e,crcR_append,crcR_num (crcR 4294967295 m),numB_sum (crcS m) (crcU_lt 0 m)]
 have hr:=crcR_lt (r:=4294967295) (by decide) m
 show stepsZ (crcR 4294967295 m ^^^ (4294967295-crcR (4294967295-0) m)) 32=_
 rw [Nat.sub_zero,xor_rest _ hr]
theorem sumOk_burst {xs ys:List UInt8} (bits at_:Nat) (hx:sumOk xs) (hl:ys.length=xs.length) (hb:bits<4294967296) (ha:at_+32<=8*xs.length) (hn:numB ys=numB xs ^^^ (2 ^ at_*bits)) (h:bits≠0):¬sumOk ys:=
 fun hy=>h (burst_none 4294967295 xs ys bits at_ hl hb ha hn (by rw [sumOk_reg hx,sumOk_reg hy]))
def flipB:List UInt8->Nat->List UInt8
 | [],_=>[]
 | c::xs,p=>if p<8 then (c ^^^ UInt8.ofNat (2 ^ p))::xs else c::flipB xs (p-8)
theorem flipB_len:∀ (xs:List UInt8) (p:Nat),(flipB xs p).length=xs.length
 | [],_=>rfl
 | c::xs,p=>by
  unfold flipB
  split
  ·rfl
  simp [flipB_len xs]
theorem flipB_num:∀ (xs:List UInt8) (p:Nat),p<8*xs.length->numB (flipB xs p)=numB xs ^^^ 2 ^ p
 | [],p,h=>by simp at h
 | c::xs,p,h=>by
  have hc:=c.toNat_lt
  unfold flipB
  split
  ·rename_i hp
   have hp2:2 ^ p<256:=by
    have:=Nat.pow_lt_pow_right (a:=2) (by decide) hp
    omega
   have hx:(c ^^^ UInt8.ofNat (2 ^ p)).toNat=c.toNat ^^^ 2 ^ p:=by
    rw [UInt8.toNat_xor,UInt8.toNat_ofNat',Nat.mod_eq_of_lt hp2]
   have hlt:c.toNat ^^^ 2 ^ p<2 ^ 8:=Nat.xor_lt_two_pow (by omega) (by omega)
   rw [numB,numB,hx,add_xor _ hlt,add_xor _ (by omega:c.toNat<2 ^ 8),Nat.xor_assoc,Nat.xor_comm (2 ^ p),<-Nat.xor_assoc]
  rename_i hp
  have ih:=flipB_num xs (p-8) (by simp only [List.length_cons] at h;omega)
  rw [numB,numB,ih,add_xor _ (by omega:c.toNat<2 ^ 8),add_xor _ (by omega:c.toNat<2 ^ 8),Nat.xor_assoc]
  congr 1
  rw [show p=8+(p-8) by omega,Nat.pow_add,show 8+(p-8)-8=p-8 by omega]
  apply Nat.eq_of_testBit_eq
  intro i
  simp only [Nat.testBit_two_pow_mul,Nat.testBit_xor]
  cases decide (8<=i)<;>simp
def burstB (xs:List UInt8) (at_ bits:Nat):Nat->List UInt8
 | 0=>xs
 | k+1=>if bits / 2 ^ k % 2=1 then flipB (burstB xs at_ bits k) (at_+k) else burstB xs at_ bits k
theorem burstB_succ (xs:List UInt8) (at_ bits k:Nat):burstB xs at_ bits (k+1)=if bits / 2 ^ k % 2=1 then flipB (burstB xs at_ bits k) (at_+k) else burstB xs at_ bits k:=rfl
theorem burstB_len (xs:List UInt8) (at_ bits k:Nat):(burstB xs at_ bits k).length=xs.length:=by
 induction k with
 | zero=>rfl
 | succ k ih=>
  rw [burstB_succ]
  split
  ·rw [flipB_len,ih]
  exact ih
theorem mod_succ_bit (b k:Nat):b % 2 ^ (k+1)=b % 2 ^ k ^^^ (if b / 2 ^ k % 2=1 then 2 ^ k else 0):=by
 rw [Nat.pow_succ,Nat.mod_mul]
 have h:=add_xor (c:=b % 2 ^ k) (k:=k) (b / 2 ^ k % 2) (Nat.mod_lt _ (Nat.two_pow_pos k))
 rw [h]
 rcases Nat.mod_two_eq_zero_or_one (b / 2 ^ k) with h0 | h0<;>simp [h0]
theorem burstB_num (xs:List UInt8) (at_ bits k:Nat) (h:at_+k<=8*xs.length):numB (burstB xs at_ bits k)=numB xs ^^^ (2 ^ at_*(bits % 2 ^ k)):=by
 induction k with
 | zero=>simp [burstB,Nat.mod_one]
 | succ k ih=>
  have ih:=ih (by omega)
  have hx:∀ a b:Nat,2 ^ at_*(a ^^^ b)=2 ^ at_*a ^^^ 2 ^ at_*b:=by
   intro a b
   apply Nat.eq_of_testBit_eq
   intro i
   simp only [Nat.testBit_two_pow_mul,Nat.testBit_xor]
   cases decide (at_<=i)<;>simp
  rw [mod_succ_bit,hx,<-Nat.xor_assoc,<-ih,burstB_succ]
  split
  ·rw [flipB_num _ _ (by rw [burstB_len];omega),Nat.pow_add]
  simp
theorem burst_told {xs:List UInt8} (at_ bits:Nat) (hx:sumOk xs) (hb:bits<4294967296) (ha:at_+32<=8*xs.length) (h:bits≠0):¬sumOk (burstB xs at_ bits 32):=
 sumOk_burst bits at_ hx (burstB_len _ _ _ _) hb ha (by rw [burstB_num _ _ _ _ ha,Nat.mod_eq_of_lt hb]) h
end Go.Proofs.YtjpjalmilfgckaaGreatDoor
