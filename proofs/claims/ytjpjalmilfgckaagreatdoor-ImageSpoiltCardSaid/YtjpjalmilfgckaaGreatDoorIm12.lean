/- Part 12 of the walks, merged: each text under its own heading. Conditions: none of its own; each lemma states what it asks. -/
import Derived.Test.YtjpjalmilfgckaaGreatDoorIm7
import Derived.Test.YtjpjalmilfgckaaGreatDoorIm8
import Derived.Test.YtjpjalmilfgckaaGreatDoorIm9
import Derived.Test.YtjpjalmilfgckaaGreatDoorIm11
set_option maxRecDepth 100000
set_option linter.unusedVariables false
set_option linter.unusedSimpArgs false
namespace Go.Proofs.YtjpjalmilfgckaaGreatDoor
open Go.RowKit
theorem toI_small {n:Nat} (h:n<9223372036854775808):toI n=(n:Int):=by
 unfold toI wrap64
 omega
theorem toI_nonneg {n:Nat} (h:n<18446744073709551616) (h0:0<=toI n):toI n=(n:Int):=by
 unfold toI wrap64 at *
 omega
theorem varA_ok {xs:List UInt8} {p e:Nat} (h:(varA xs p e).2.2=0):e=0/\(varA xs p e).1<18446744073709551616/\xs.drop p=leb (varA xs p e).1++xs.drop (varA xs p e).2.1:=by
 unfold varA at *
 by_cases he:e≠0
 ·rw [if_pos he] at h
  exact absurd h he
 rw [if_neg he] at h ⊢
 rcases get_only (xs.drop p) with ⟨n,hg,hn,hl,ht⟩ | ⟨e2,hg,he2,-⟩
 ·rw [hg]
  rw [if_neg (by simp)]
  refine ⟨by omega,hn,?_⟩
  show xs.drop p=leb n++xs.drop (p+(leb n).length)
  conv=>lhs;rw [<-List.take_append_drop (leb n).length (xs.drop p),<-ht,List.drop_drop]
 rw [hg,if_pos he2] at h
 exact absurd h he2
theorem varA_put {xs r:List UInt8} {p n:Nat} (hn:n<18446744073709551616) (h:xs.drop p=leb n++r):varA xs p 0=(n,p+(leb n).length,0)/\xs.drop (p+(leb n).length)=r:=by
 unfold varA
 rw [if_neg (by simp),h,get_leb n hn r,if_neg (by simp)]
 refine ⟨rfl,?_⟩
 rw [<-List.drop_drop,h,List.drop_left]
theorem imgT_ok {most:Int} {b:List UInt8} {s:ByteArray} {n:Nat} (h:takeT most b=.ok (s,n)):(s.size:Int)<=most/\n=(textB s).length/\b=textB s++b.drop n:=by
 unfold takeT at h
 split at h
 ·cases h
 rename_i h0
 split at h
 ·cases h
 rename_i h1
 split at h
 ·cases h
 rename_i h2
 simp only [Except.ok.injEq,Prod.mk.injEq] at h
 obtain ⟨hs,hn⟩:=h
 rcases get_only b with ⟨m,hg,hm,hl,ht⟩ | ⟨e2,hg,he2,-⟩
 ·rw [hg] at h0 h1 h2 hs hn
  simp only at h0 h1 h2 hs hn
  have hsz:s.size=m:=by
   rw [<-hs]
   show ((b.drop (leb m).length).take m).toArray.size=m
   simp only [List.size_toArray,List.length_take,List.length_drop]
   omega
  have hd:s.data.toList=(b.drop (leb m).length).take m:=by rw [<-hs];rfl
  refine ⟨by omega,?_,?_⟩
  ·rw [<-hn]
   unfold textB
   rw [List.length_append,bts_size,hsz]
  unfold textB
  rw [hd,hsz,<-hn,<-List.drop_drop,List.append_assoc,List.take_append_drop]
  conv=>lhs;rw [<-List.take_append_drop (leb m).length b,<-ht]
 rw [hg] at h0
 exact absurd he2 h0
theorem imgT_put {most:Int} {s:ByteArray} {r:List UInt8} (h0:0<=most) (hs:(s.size:Int)<=most) (hlt:s.size<18446744073709551616):takeT most (textB s++r)=.ok (s,(textB s).length):=by
 unfold textB
 unfold takeT
 rw [List.append_assoc,get_leb _ hlt,if_neg (by simp),if_neg (by simp only [];omega)]
 have hl:¬((leb s.size++(s.data.toList++r)).length-(leb s.size).length<s.size):=by
  rw [List.length_append,List.length_append,bts_size];omega
 simp only []
 rw [if_neg hl,List.drop_left,List.take_append_of_le_length (by rw [bts_size];exact Nat.le_refl _),List.take_of_length_le (by rw [bts_size];exact Nat.le_refl _)]
 simp [txt,bts_size]
theorem textA_ok {xs:List UInt8} {p e:Nat} {most:Int} (h:(textA xs p e most).2.2=0):e=0/\((textA xs p e most).1.size:Int)<=most/\xs.drop p=textB (textA xs p e most).1++xs.drop (textA xs p e most).2.1:=by
 unfold textA at *
 by_cases he:e≠0
 ·rw [if_pos he] at h
  exact absurd h he
 rw [if_neg he] at h ⊢
 rcases ht:takeT most (xs.drop p) with e2 | ⟨s,n⟩
 ·rw [ht] at h
  simp only at h
  have:e2≠0:=by
   unfold takeT at ht
   split at ht
   ·cases ht;assumption
   split at ht
   ·cases ht;decide
   split at ht
   ·cases ht;decide
   cases ht
  exact absurd h this
 obtain ⟨h1,h2,h3⟩:=imgT_ok ht
 refine ⟨by omega,h1,?_⟩
 simp only
 rw [List.drop_drop] at h3
 exact h3
theorem textA_put {xs r:List UInt8} {p:Nat} {most:Int} {s:ByteArray} (h0:0<=most) (hs:(s.size:Int)<=most) (hlt:s.size<18446744073709551616) (h:xs.drop p=textB s++r) :
  textA xs p 0 most=(s,p+(textB s).length,0)/\xs.drop (p+(textB s).length)=r:=by
 unfold textA
 rw [if_neg (by simp),h,imgT_put h0 hs hlt]
 refine ⟨rfl,?_⟩
 rw [<-List.drop_drop,h,List.drop_left]
theorem leb_cancel {n m:Nat} (hn:n<18446744073709551616) (hm:m<18446744073709551616) {x y:List UInt8} (h:leb n++x=leb m++y):n=m/\x=y:=by
 have h1:=get_leb n hn x
 rw [h,get_leb m hm y] at h1
 have e:n=m:=(congrArg (·.1) h1).symm
 subst e
 exact ⟨rfl,List.append_cancel_left h⟩
theorem text_cancel {s t:ByteArray} (hs:s.size<18446744073709551616) (ht:t.size<18446744073709551616) {x y:List UInt8} (h:textB s++x=textB t++y):s=t/\x=y:=by
 unfold textB at h
 rw [List.append_assoc,List.append_assoc] at h
 obtain ⟨h1,h2⟩:=leb_cancel hs ht h
 obtain ⟨h3,h4⟩:=List.append_inj h2 (by rw [bts_size,bts_size,h1])
 exact ⟨ByteArray.ext (Array.toList_inj.1 h3),h4⟩
theorem run_cancel {a b:List UInt8} (ha:a.length<18446744073709551616) (hb:b.length<18446744073709551616) {x y:List UInt8} (h:runB a++x=runB b++y):a=b/\x=y:=by
 unfold runB at h
 rw [List.append_assoc,List.append_assoc] at h
 obtain ⟨h1,h2⟩:=leb_cancel ha hb h
 exact List.append_inj h2 h1
theorem run_text (b:List UInt8):runB b=textB (txt b):=by
 unfold runB textB txt
 simp [<-ByteArray.size_data]
structure StOk (s:Sc) (st:St):Prop where
 sch:schB s=true
 v:1<=st.1/\st.1<=64
 q:0<=st.2.1
 last:st.2.2.2.2.length<=1048576
 mkk:∀ m∈st.2.2.1,m.1.size<=32/\0<=m.2/\m.2<=9007199254740991
 many:st.2.2.1.length<=16
 rows:st.2.2.2.1.length<=4096
 items:∀ it∈st.2.2.2.1,it.2=1/\rowE s.1 it.1=0
theorem nameB_size {s:ByteArray} (h:nameB s=true):s.size<=32:=by
 unfold nameB at h
 rw [<-bts_size]
 generalize s.data.toList=l at *
 cases l with
 | nil=>simp
 | cons c l=>
  simp only [nameL,Bool.and_eq_true,decide_eq_true_eq] at h
  simp only [List.length_cons]
  omega
theorem stOk_of {s:Sc} {st:St} (h:stB s st=true):StOk s st:=by
 unfold stB at h
 simp only [Bool.and_eq_true,decide_eq_true_eq] at h
 obtain ⟨⟨⟨⟨h1,h2,h3,h4⟩,h5⟩,h6⟩,h7⟩:=h
 unfold marksB at h6
 unfold rowsB at h7
 simp only [Bool.and_eq_true,decide_eq_true_eq] at h6 h7
 refine ⟨h1,⟨h2,h3⟩,h4,h5,fun m hm=>?_,h6.2,h7.1.1,fun it hit=>?_⟩
 ·obtain ⟨q,hq⟩:=allPrev_mem h6.1 m hm
  unfold markF at hq
  simp only [Bool.and_eq_true,decide_eq_true_eq] at hq
  exact ⟨nameB_size hq.1.1,hq.1.2⟩
 have:=List.all_eq_true.1 h7.1.2 it hit
 unfold oddF at this
 simpa using this
theorem schB_may {s:Sc} (h:schB s=true):mayCs s.1=true:=by
 unfold schB at h
 simp only [Bool.and_eq_true,decide_eq_true_eq] at h
 obtain ⟨⟨⟨⟨⟨⟨h1,h2⟩,-⟩,-⟩,-⟩,-⟩,-⟩:=h
 unfold mayCs
 simp only [Bool.and_eq_true,decide_eq_true_eq]
 refine ⟨h2,List.all_eq_true.2 fun c hc=>?_⟩
 have:=List.all_eq_true.1 h1 c hc
 unfold colF at this
 simp only [Bool.and_eq_true,beq_iff_eq] at this
 have h3:=this.2
 unfold checkE at h3
 by_cases hk:mayK c.2.2.1=true
 ·exact hk
 rw [if_neg hk] at h3
 cases h3
theorem StOk.fits {s:Sc} {st:St} (h:StOk s st):Fits s.1 (st.1,st.2.1,st.2.2.2.1):=by
 have h1:=h.v
 have h2:=h.rows
 refine ⟨schB_may h.sch,by simp only;omega,by simp only;omega,h.q,by simp only;omega,fun it hit=>?_⟩
 obtain ⟨h3,h4⟩:=h.items it hit
 exact ⟨h4,by rw [h3];decide⟩
theorem StOk.baok {s:Sc} {st:St} (h:StOk s st) (hq:st.2.1<=9223372036854775807):BaOk (st.1,st.2.1,st.2.2.2.1):=by
 refine ⟨hq,fun it hit=>?_⟩
 rw [(h.items it hit).1]
 decide
theorem StOk.enc_le {s:Sc} {st:St} (h:StOk s st):(encA s.1 (st.1,st.2.1,st.2.2.2.1)).length<=140000000:=by
 have h1:=h.fits.colsB_le s.1.length
 have h2:=headB_le st.1 st.2.1 st.2.2.2.1.length
 have h3:=wsB_le st.2.2.2.1
 have h4:=(mayCs_len h.fits.may).2
 have h5:=h.rows
 simp only at h1
 have h6:s.1.length*(10+1046*st.2.2.2.1.length)<=32*(10+1046*4096):=Nat.mul_le_mul (by omega) (by omega)
 rw [encA_len]
 unfold bodyB
 simp only [List.length_append]
 omega
theorem marksW_le {l:List Mk} (h:∀ m∈l,m.1.size<=32/\0<=m.2/\m.2<=9007199254740991):(marksW l).length<=52*l.length:=by
 induction l with
 | nil=>simp [marksW]
 | cons m l ih=>
  have h1:=ih fun x hx=>h x (by simp [hx])
  have h2:=(h m (by simp)).1
  have h3:=leb_le m.1.size
  have h4:=leb_le m.2.toNat
  have h5:=bts_size m.1
  simp only [marksW,textB,List.flatMap_cons,List.length_append,List.length_cons] at *
  omega
theorem marksW_append (l m:List Mk):marksW (l++m)=marksW l++marksW m:=by unfold marksW;rw [List.flatMap_append]
theorem marks_only {xs:List UInt8}:∀ (n:Nat) (s:MkS),(markI xs s n).2.2=0 ->
  ∃ raw:List (ByteArray×Nat),raw.length=n/\(markI xs s n).1=s.1++raw.map (fun r=>(r.1,toI r.2))/\s.2.2=0/\(∀ r∈raw,r.2<18446744073709551616) /\
   xs.drop s.2.1=raw.flatMap (fun r=>textB r.1++leb r.2)++xs.drop (markI xs s n).2.1
 | 0,s,h=>⟨[],rfl,by simp [markI],h,by simp,by simp [markI]⟩
 | n+1,s,h=>by
  rw [markI] at h ⊢
  obtain ⟨m,hm⟩:∃ m,markI xs s n=m:=⟨_,rfl⟩
  have ih:=marks_only (xs:=xs) n s
  rw [hm] at h ih ⊢
  unfold markA at h ⊢
  simp only at h ⊢
  obtain ⟨a1,a2,a3⟩:=varA_ok h
  obtain ⟨b1,b2,b3⟩:=textA_ok a1
  obtain ⟨raw,c1,c2,c3,c4,c5⟩:=ih b1
  refine ⟨raw++[((textA xs m.2.1 m.2.2 32).1,(varA xs (textA xs m.2.1 m.2.2 32).2.1 (textA xs m.2.1 m.2.2 32).2.2).1)],by simp [c1],by simp [c2],c3,?_,?_⟩
  ·intro r hr
   rcases List.mem_append.1 hr with hr | hr
   ·exact c4 r hr
   obtain rfl:=List.mem_singleton.1 hr
   exact a2
  rw [c5,b3,a3]
  simp
theorem raw_marks {raw:List (ByteArray×Nat)} (h:∀ r∈raw,r.2<18446744073709551616) (h2:∀ m∈raw.map (fun r=>((r.1,toI r.2):Mk)),m.1.size<=32/\0<=m.2/\m.2<=9007199254740991) :
  raw.flatMap (fun r=>textB r.1++leb r.2)=marksW (raw.map fun r=>(r.1,toI r.2)):=by
 unfold marksW
 induction raw with
 | nil=>rfl
 | cons r raw ih=>
  have h3:=h2 (r.1,toI r.2) (by simp)
  have h4:=toI_nonneg (h r (by simp)) h3.2.1
  rw [List.flatMap_cons,List.map_cons,List.flatMap_cons,ih (fun x hx=>h x (by simp [hx])) (fun x hx=>h2 x (by rw [List.map_cons];exact List.mem_cons_of_mem _ hx))]
  simp only [h4,Int.toNat_natCast]
theorem marks_put {xs r:List UInt8} (l:List Mk) (p:Nat) (t:List Mk) (hm:∀ m∈l,m.1.size<=32/\0<=m.2/\m.2<=9007199254740991) (h:xs.drop p=marksW l++r) :
  ∀ n,n<=l.length->∃ p',markI xs (t,p,0) n=(t++l.take n,p',0)/\xs.drop p'=marksW (l.drop n)++r
 | 0,_=>⟨p,by simp [markI],by simpa using h⟩
 | n+1,hn=>by
  obtain ⟨p1,h1,h2⟩:=marks_put l p t hm h n (by omega)
  obtain ⟨m,hlm⟩:∃ m,l[n]? = some m:=⟨_,List.getElem?_eq_getElem (by omega)⟩
  obtain ⟨g1,g2,g3⟩:=hm m (List.mem_of_getElem? hlm)
  have h3:marksW (l.drop n)++r=textB m.1++(leb m.2.toNat++(marksW (l.drop (n+1))++r)):=by rw [drop_at hlm];simp [marksW]
  rw [h3] at h2
  obtain ⟨k1,k2⟩:=textA_put (most:=32) (by decide) (by omega) (by omega) h2
  obtain ⟨j1,j2⟩:=varA_put (by omega) k2
  refine ⟨p1+(textB m.1).length+(leb m.2.toNat).length,?_,j2⟩
  rw [markI,h1]
  unfold markA
  simp only
  rw [k1]
  simp only
  rw [j1]
  simp only
  rw [toI_small (by omega),List.take_add_one,hlm]
  have:((m.2.toNat:Nat):Int)=m.2:=by omega
  rw [this]
  simp
theorem parseI_back {s:Sc} {st:St} (h:stB s st=true) (hq:st.2.1<=9223372036854775807):parseI s (imgR s st)=.ok st:=by
 have H:=stOk_of h
 obtain ⟨v,q,ms,l,last⟩:=st
 obtain ⟨hv1,hv2⟩:=H.v
 have hq0:=H.q
 have hmm:=H.many
 have hle:=H.enc_le
 have hla:=H.last
 have hbk:=H.fits.back (H.baok hq)
 have hmk:=H.mkk
 simp only at hv1 hv2 hq0 hmm hle hla hbk hmk hq
 generalize hxs:imgR s (v,q,ms,l,last)=xs
 have e0:xs.drop 0=leb v.toNat++(leb q.toNat++(leb ms.length++(marksW ms++(textB (txt (encA s.1 (v,q,l)))++textB (txt last))))):=by
  rw [<-hxs]
  simp only [imgR,imgH,run_text,List.drop_zero,List.append_assoc]
 obtain ⟨a1,a2⟩:=varA_put (by omega) e0
 obtain ⟨b1,b2⟩:=varA_put (by omega) a2
 obtain ⟨c1,c2⟩:=varA_put (by omega) b2
 obtain ⟨p4,d1,d2⟩:=marks_put ms _ [] hmk c2 ms.length (Nat.le_refl _)
 rw [List.take_length] at d1
 rw [List.drop_length,show marksW []=[] from rfl,List.nil_append] at d2
 have hts:(txt (encA s.1 (v,q,l))).size=(encA s.1 (v,q,l)).length:=by unfold txt;simp [<-ByteArray.size_data]
 have hls:(txt last).size=last.length:=by unfold txt;simp [<-ByteArray.size_data]
 obtain ⟨f1,f2⟩:=textA_put (most:=2147483647) (by decide) (by rw [hts];omega) (by rw [hts];omega) d2
 rw [<-List.append_nil (textB (txt last))] at f2
 obtain ⟨g1,g2⟩:=textA_put (most:=1048576) (by decide) (by rw [hls];omega) (by rw [hls];omega) f2
 have hv1e:v1 xs=(v.toNat,0+(leb v.toNat).length,0):=a1
 have hv2e:v2 xs=(q.toNat,0+(leb v.toNat).length+(leb q.toNat).length,0):=by unfold v2;rw [hv1e];exact b1
 have hv3e:v3 xs=(ms.length,0+(leb v.toNat).length+(leb q.toNat).length+(leb ms.length).length,0):=by unfold v3;rw [hv2e];exact c1
 unfold parseI
 rw [hv1e,hv2e,hv3e]
 simp only
 rw [if_pos ⟨trivial,hmm⟩,d1,toI_small (by omega),toI_small (by omega)]
 simp only [List.nil_append]
 have t1:((v.toNat:Nat):Int)=v:=by omega
 have t2:((q.toNat:Nat):Int)=q:=by omega
 rw [t1,t2]
 unfold parseT
 rw [f1]
 simp only
 rw [g1]
 simp only
 rw [show (txt (encA s.1 (v,q,l))).data.toList=encA s.1 (v,q,l) from rfl,hbk,show (txt last).data.toList=last from rfl]
 simp only [and_self,if_true]
 rw [if_pos]
 refine ⟨?_,h⟩
 have hz:xs.length-(p4+(textB (txt (encA s.1 (v,q,l)))).length+(textB (txt last)).length)=0:=by
  have:=congrArg List.length g2
  rw [List.length_drop] at this
  simpa using this
 rw [hz]
 rfl
theorem parseI_only {s:Sc} {xs:List UInt8} {st:St} (h:parseI s xs=.ok st):stB s st=true/\st.2.1<=9223372036854775807/\toI (v1 xs).1=st.1/\(v1 xs).2.2=0/\imgR s st=xs:=by
 unfold parseI at h
 split at h
 ·rename_i h0
  obtain ⟨h0a,h0b⟩:=h0
  unfold parseT at h
  split at h
  ·cases h
  rename_i b hb
  split at h
  ·rename_i h1
   split at h
   ·rename_i h2
    have hst:st=_:=(Except.ok.inj h).symm
    obtain ⟨h2a,h2b⟩:=h2
    obtain ⟨m,hm⟩:∃ m,markI xs ([],(v3 xs).2) (v3 xs).1=m:=⟨_,rfl⟩
    clear h
    rw [hm] at hb h2a h2b hst
    obtain ⟨t,ht⟩:∃ t,textA xs m.2.1 m.2.2 2147483647=t:=⟨_,rfl⟩
    rw [ht] at hb h2a h2b hst
    obtain ⟨u,hu⟩:∃ u,textA xs t.2.1 t.2.2 1048576=u:=⟨_,rfl⟩
    rw [hu] at h2a h2b hst
    have hue:u.2.2=0/\xs.drop u.2.1=[]:=by
     unfold endE at h2a
     split at h2a
     ·cases h2a
     rename_i h3
     refine ⟨h2a,List.eq_nil_of_length_eq_zero ?_⟩
     rw [List.length_drop]
     omega
    obtain ⟨hu0,hun⟩:=hue
    have k1:=textA_ok (xs:=xs) (p:=t.2.1) (e:=t.2.2) (most:=1048576) (by rw [hu];exact hu0)
    rw [hu,hun,List.append_nil] at k1
    have k2:=textA_ok (xs:=xs) (p:=m.2.1) (e:=m.2.2) (most:=2147483647) (by rw [ht];exact k1.1)
    rw [ht] at k2
    obtain ⟨raw,c1,c2,c3,c4,c5⟩:=marks_only (xs:=xs) (v3 xs).1 ([],(v3 xs).2) (by rw [hm];exact k2.1)
    rw [hm] at c2 c5
    simp only [List.nil_append] at c2 c5
    obtain ⟨v3a,v3b,v3c⟩:=varA_ok (xs:=xs) (p:=(v2 xs).2.1) (e:=(v2 xs).2.2) h0a
    obtain ⟨v2a,v2b,v2c⟩:=varA_ok (xs:=xs) (p:=(v1 xs).2.1) (e:=(v1 xs).2.2) v3a
    obtain ⟨v1a,v1b,v1c⟩:=varA_ok (xs:=xs) (p:=0) (e:=0) v2a
    rw [hst] at *
    have H:=stOk_of h2b
    have hmk:=H.mkk
    have hmany:=H.many
    have hv:=H.v
    have hq:=H.q
    simp only at hmk hmany hv hq
    obtain ⟨d1,d2,d3⟩:=decB_only hb
    rw [c2] at hmk
    have hraw:=raw_marks c4 hmk
    rw [<-c2] at hraw
    have n1:toI (v1 xs).1=((v1 xs).1:Int):=toI_nonneg v1b (by omega)
    have n2:toI (v2 xs).1=((v2 xs).1:Int):=toI_nonneg v2b hq
    have hlen:m.1.length=(v3 xs).1:=by rw [c2,List.length_map,c1]
    refine ⟨h2b,(toI_in _).2,rfl,v2a,?_⟩
    have e1:textB t.1=runB (encA s.1 (toI (v1 xs).1,toI (v2 xs).1,b.2.2)):=by
     rw [<-h1.1,<-h1.2]
     rw [show ((b.1,b.2.1,b.2.2):Ba)=b from rfl,d3,run_text]
     rfl
    have e2:textB u.1=runB u.1.data.toList:=by rw [run_text];rfl
    unfold imgR imgH
    simp only
    rw [<-e1,<-e2,<-hraw,hlen,n1,n2,Int.toNat_natCast,Int.toNat_natCast]
    have f0:xs=leb (v1 xs).1++xs.drop (v1 xs).2.1:=v1c
    have f1:xs.drop (v1 xs).2.1=leb (v2 xs).1++xs.drop (v2 xs).2.1:=v2c
    have f2:xs.drop (v2 xs).2.1=leb (v3 xs).1++xs.drop (v3 xs).2.1:=v3c
    have f3:xs.drop m.2.1=textB t.1++textB u.1:=by rw [k2.2.2,k1.2.2]
    conv=>rhs;rw [f0,f1,f2,c5,f3]
    simp
   cases h
  cases h
 cases h
theorem imgA_len (s:Sc) (st:St):(imgA s st).length=(imgB s st).length+4:=by simp [imgA,sumB_len]
theorem imgA_four (s:Sc) (st:St):4<=(imgA s st).length:=by rw [imgA_len];omega
theorem imgA_ahead (s:Sc) (st:St):(imgA s st).take ((imgA s st).length-4)=imgB s st/\(imgA s st).drop ((imgA s st).length-4)=sumB (crcS (imgB s st)):=by
 have hl:(imgA s st).length-4=(imgB s st).length:=by rw [imgA_len];omega
 rw [hl]
 unfold imgA
 exact ⟨List.take_left,List.drop_left⟩
theorem imgA_sumOk (s:Sc) (st:St):sumOk (imgA s st):=by
 obtain ⟨h1,h2⟩:=imgA_ahead s st
 exact ⟨imgA_four s st,by rw [h1,h2]⟩
theorem parseA_back {l:List Sc} {s:Sc} {st:St} (hc:chainE l=0) (h:stB s st=true) (hq:st.2.1<=9223372036854775807) (hs:l[(st.1-1).toNat]? = some s):parseA l (imgA s st)=.ok st:=by
 obtain ⟨h1,h2⟩:=imgA_ahead s st
 have H:=stOk_of h
 have hv:=H.v
 unfold parseA
 rw [if_neg (by rw [hc];simp),if_neg (by have:=imgA_four s st;omega),h1,h2,if_neg (by simp)]
 have h3:(imgB s st).take 3=[77,73,1]:=rfl
 have h4:(imgB s st).drop 3=imgR s st:=rfl
 have h5:get (imgR s st)=(st.1.toNat,(leb st.1.toNat).length,0):=by
  unfold imgR imgH
  rw [List.append_assoc]
  exact get_leb _ (by omega) _
 rw [h3,h4,h5,if_neg (by simp)]
 simp only
 rw [if_neg (by omega),show st.1.toNat-1=(st.1-1).toNat by omega,hs]
 exact parseI_back h hq
theorem parseA_only {l:List Sc} {xs:List UInt8} {st:St} (h:parseA l xs=.ok st):∃ s,1<=st.1/\st.1<=l.length/\l[(st.1-1).toNat]? = some s/\stB s st=true/\st.2.1<=9223372036854775807/\imgA s st=xs:=by
 unfold parseA at h
 split at h
 ·cases h
 split at h
 ·cases h
 rename_i h1
 split at h
 ·cases h
 rename_i h2
 split at h
 ·cases h
 rename_i h3
 split at h
 ·cases h
 rename_i s hs
 obtain ⟨a1,a2,a3,a4,a5⟩:=parseI_only h
 have hg:(get ((xs.take (xs.length-4)).drop 3)).1=(v1 ((xs.take (xs.length-4)).drop 3)).1:=by
  unfold v1 varA
  rw [if_neg (by simp),List.drop_zero]
  split
  ·rename_i h4
   exact absurd (by simpa using h3) (fun h5:_/\_=>h4 h5.2)
  rfl
 rw [hg] at hs
 split at hs
 ·cases hs
 rename_i h0
 have hlt:=(List.getElem?_eq_some_iff.1 hs).1
 have hv:=(stOk_of a1).v
 have hn:((v1 ((xs.take (xs.length-4)).drop 3)).1:Int)=st.1:=by
  rw [<-a3]
  have hb:(v1 ((xs.take (xs.length-4)).drop 3)).1<18446744073709551616:=(varA_ok (xs:=(xs.take (xs.length-4)).drop 3) (p:=0) (e:=0) a4).2.1
  exact (toI_nonneg hb (by omega)).symm
 refine ⟨s,hv.1,by omega,?_,a1,a2,?_⟩
 ·rw [show (st.1-1).toNat=(v1 ((xs.take (xs.length-4)).drop 3)).1-1 by omega]
  exact hs
 have h4:(xs.take (xs.length-4)).take 3=[77,73,1]:=by
  by_cases h5:(xs.take (xs.length-4)).take 3=[77,73,1]
  ·exact h5
  exact absurd (.inl h5) h3
 have h5:imgB s st=xs.take (xs.length-4):=by
  unfold imgB
  rw [a5,<-h4,List.take_append_drop]
 unfold imgA
 rw [h5]
 have h6:sumB (crcS (xs.take (xs.length-4)))=xs.drop (xs.length-4):=by simpa using h2
 rw [h6,List.take_append_drop]
theorem marks_cancel:∀ (l m:List Mk) (x y:List UInt8),l.length=m.length->(∀ k∈l,k.1.size<=32/\0<=k.2/\k.2<=9007199254740991)->(∀ k∈m,k.1.size<=32/\0<=k.2/\k.2<=9007199254740991)->marksW l++x=marksW m++y->l=m/\x=y
 | [],[],x,y,_,_,_,h=>⟨rfl,by simpa [marksW] using h⟩
 | [],_::_,_,_,hl,_,_,_=>by simp at hl
 | _::_,[],_,_,hl,_,_,_=>by simp at hl
 | a::l,b::m,x,y,hl,h1,h2,h=>by
  obtain ⟨a1,a2,a3⟩:=h1 a (by simp)
  obtain ⟨b1,b2,b3⟩:=h2 b (by simp)
  have e:∀ (c:Mk) (t:List Mk) (z:List UInt8),marksW (c::t)++z=textB c.1++(leb c.2.toNat++(marksW t++z)):=fun c t z=>by simp [marksW]
  rw [e,e] at h
  obtain ⟨g1,g2⟩:=text_cancel (by omega) (by omega) h
  obtain ⟨g3,g4⟩:=leb_cancel (by omega) (by omega) g2
  obtain ⟨g5,g6⟩:=marks_cancel l m x y (by simpa using hl) (fun k hk=>h1 k (by simp [hk])) (fun k hk=>h2 k (by simp [hk])) g4
  refine ⟨?_,g6⟩
  rw [g5,show a=b from Prod.ext g1 (by omega)]
theorem imgR_cancel {s:Sc} {a b:St} (ha:stB s a=true) (hb:stB s b=true) (hqa:a.2.1<=9223372036854775807) (hqb:b.2.1<=9223372036854775807) {x y:List UInt8} (h:imgR s a++x=imgR s b++y):a=b/\x=y:=by
 have A:=stOk_of ha
 have B:=stOk_of hb
 have a1:=A.v
 have a2:=A.q
 have a3:=A.many
 have a4:=A.enc_le
 have a5:=A.last
 have b1:=B.v
 have b2:=B.q
 have b3:=B.many
 have b4:=B.enc_le
 have b5:=B.last
 unfold imgR imgH at h
 simp only [List.append_assoc] at h
 obtain ⟨e1,h⟩:=leb_cancel (by omega) (by omega) h
 obtain ⟨e2,h⟩:=leb_cancel (by omega) (by omega) h
 obtain ⟨e3,h⟩:=leb_cancel (by omega) (by omega) h
 obtain ⟨e4,h⟩:=marks_cancel _ _ _ _ e3 A.mkk B.mkk h
 obtain ⟨e5,h⟩:=run_cancel (by omega) (by omega) h
 obtain ⟨e6,h⟩:=run_cancel (by omega) (by omega) h
 have e7:=encA_inj A.fits (A.baok hqa) B.fits (B.baok hqb) e5
 simp only [Prod.mk.injEq] at e7
 exact ⟨Prod.ext e7.1 (Prod.ext e7.2.1 (Prod.ext e4 (Prod.ext e7.2.2 e6))),h⟩
theorem imgA_inj {s:Sc} {a b:St} (ha:stB s a=true) (hb:stB s b=true) (hqa:a.2.1<=9223372036854775807) (hqb:b.2.1<=9223372036854775807) (h:imgA s a=imgA s b):a=b:=by
 unfold imgA imgB at h
 simp only [List.append_assoc] at h
 exact (imgR_cancel ha hb hqa hqb (List.append_cancel_left h)).1
theorem img_cut {s:Sc} {st:St} (h:stB s st=true) (hq:st.2.1<=9223372036854775807) (k:Nat) (hk:k<(imgA s st).length):∃ e,parseA [s] ((imgA s st).take k)=.error e:=by
 rcases hp:parseA [s] ((imgA s st).take k) with e | a
 ·exact ⟨e,rfl⟩
 exfalso
 obtain ⟨s2,h1,h2,h3,h4,h5,h6⟩:=parseA_only hp
 have hs:s2=s:=by
  have h7:(a.1-1).toNat=0:=by simp at h2;omega
  rw [h7] at h3
  exact (Option.some.inj h3).symm
 subst hs
 have h7:imgA s2 a++(imgA s2 st).drop k=imgA s2 st:=by rw [h6,List.take_append_drop]
 unfold imgA imgB at h7
 simp only [List.append_assoc] at h7
 obtain ⟨h8,-⟩:=imgR_cancel h4 h h5 hq (List.append_cancel_left h7)
 subst h8
 have h9:=congrArg List.length h6
 rw [List.length_take] at h9
 omega
theorem img_burst {l:List Sc} {s:Sc} {st:St} (hc:chainE l=0) (at_ bits:Nat) (hb:bits<4294967296) (ha:at_+32<=8*(imgA s st).length) (h0:bits≠0):parseA l (burstB (imgA s st) at_ bits 32)=.error 170:=by
 have hn:=burst_told at_ bits (imgA_sumOk s st) hb ha h0
 have hl:=burstB_len (imgA s st) at_ bits 32
 have h4:=imgA_four s st
 unfold parseA
 rw [if_neg (by rw [hc];simp),if_neg (by rw [hl];omega),if_pos (fun hs=>hn ⟨by rw [hl];exact h4,hs⟩)]
theorem chain_one {s:Sc} (h:schB s=true):chainE [s]=0:=by
 unfold chainE
 rw [if_neg (by simp),if_pos (by simp [h]),if_pos (by simp [chainF])]
theorem imgE_zero {s:Sc} {st:St}:imgE s st=0 ↔ stB s st=true:=by
 unfold imgE
 cases stB s st<;>simp
end Go.Proofs.YtjpjalmilfgckaaGreatDoor
namespace Go.Proofs.YtjpjalmilfgckaaGreatDoor
open Go.RowKit
theorem unpackL_size (xs:List UInt8) (n:Int):(unpackL xs n).2.1<=xs.length/\(unpackL xs n).1.length<=1048576/\(unpackL xs n).2.2<200:=by
 rcases unpackL_only xs n with ⟨l,k,e,h1,h2,h3⟩ | ⟨e,h,h1,h2⟩
 ·rw [e]
  refine ⟨h2,?_,by simp⟩
  by_cases hn:n<0\/1048576<n
  ·have:unpackL xs n=([],0,6):=by unfold unpackL;rw [if_pos hn]
   rw [e] at this
   injection this with h4 h5
   subst h4
   simp
  simp only;omega
 rw [h]
 exact ⟨Nat.zero_le _,by simp,h2⟩
theorem not_bls (bl:List Bool) {k a:Int} {A B:Option Addr} {n c m d:Nat}:∀ u∈bls bl,u ∉ (#[.int .i64 k,.slice A n c,.slice B m d,.int .i64 a]:Array Value):=by
 intro u hu
 obtain ⟨c,-,rfl⟩:=List.mem_map.1 hu
 simp
set_option maxHeartbeats 1000000 in
theorem bools_any (base g:Nat) (k:Int) (a:Nat) (B:Option Addr) (m cb:Nat) (xs:List UInt8) (n:Int) (w:World) (h:ColG w base base g k a none 0 0 [] B m cb xs) (ha:a<=m) (hn1 : -9223372036854775808<=n) (hn2:n<=9223372036854775807) :
  Calls Tryz.prog 155 #[.pointer (some ⟨g,0,none⟩),.int .i64 n] w fun e w'=>∃ A' c',e=.returned (.tuple #[.slice A' (unpackL (xs.drop a) n).1.length c',.int .i64 ((unpackL (xs.drop a) n).2.2:Int)])/\(unpackL (xs.drop a) n).1.length<=c'/\c'<=maxLen /\
   Reads w' w'.heap.size 1 A' (unpackL (xs.drop a) n).1.length (bls (unpackL (xs.drop a) n).1)/\ColG w' base base g k (a+(unpackL (xs.drop a) n).2.1:Nat) none 0 0 [] B m cb xs/\a+(unpackL (xs.drop a) n).2.1<=m/\Below base w w'/\Apart w.heap.size g w w':=by
 have HC:=Lib.hid h
 have Hxl:=Lib.hid (show xs.length=m from reads_len h.bytes)
 have Hle:=Lib.hid h.le
 have Hmx:=Lib.hid h.max
 have hsz:=unpackL_size (xs.drop a) n
 rw [List.length_drop,Hxl.out] at hsz
 have Hsz:=Lib.hid hsz
 have HS2:=Lib.hid (show ∀ w',Below w.heap.size w w'->w'.cell? ⟨g,2,none⟩=some (.slice B m cb) from fun w' h'=>(HC.out.blk.on h').cell 2)
 have HS3:=Lib.hid (show ∀ w',Below w.heap.size w w'->w'.cell? ⟨g,3,none⟩=some (.int .i64 (a:Int)) from fun w' h'=>(HC.out.blk.on h').cell 3)
 have d1:((a:Nat):Int).toNat=a:=by simp
 have hcut:=Lib.hid ((HC.out.reads.cut (k:=a) ha HC.out.le).drew)
 rw [Nat.mul_one,u8s_drop] at hcut
 clear h hsz
 go_enter Tryz.func155,Tryz.ntmps155
 go_wp2
 have hS:Below w.heap.size w w.drew:=(Below.refl _ _).drew
 have hcm:cb<=9223372036854775807:=by have:=Hmx.out;simp only [maxLen] at this;omega
 have hmc:=Hle.out
 obtain ⟨A2,hA2⟩:∃ A2,(if cb=a then B else Option.map (fun x=>x.add a) B)=A2:=⟨_,rfl⟩
 rw [hA2] at hcut
 refine hR (fun w'=>Below w.heap.size w w') [ff 0,ff 1,ff 2,ff 3,ff 4,ff 5,ff 6,ff 7,ff 8,ff 9,tt 10,ff 11,ff 12,ff 13,ff 14,ff 15,ff 16,ff 17] ?_
 iterate 3
  refine hP hS ?_
 refine hP1 hS HS2.out ?_
 iterate 3
  refine hP hS ?_
 refine hP1 hS HS3.out ?_
 refine hP hS ?_
 refine hP hS ?_
 clear hA2
 refine hE fun K hK=>?_
 go_simp
 with_reducible refine (munpack_any A2 (m-a) (cb-a) (xs.drop a) n _ hcut.out (by omega) (by have:=Hmx.out;omega) hn1 hn2).mono ?_
 rintro e w3 ⟨A3,c3,rfl,q1,q2,q3,q4⟩
 generalize hr0:unpackL (xs.drop a) n=r at *
 obtain ⟨bl,sz,er⟩:=r
 have Hr0:=Lib.hid hr0
 clear hr0
 simp only at q1 q2 q3 q4 Hsz ⊢
 have Q:=Lib.hid (And.intro q1 (And.intro q2 q3))
 have HC3:=Lib.hid (HC.out.onDrew.below q4)
 have HB3:=Lib.hid (((Below.refl base w).drew).trans (q4.mono HC.out.onDrew.base_le))
 have HP3:=Lib.hid ((Apart.refl w.heap.size g w).drew.below q4 (Nat.le_refl _))
 clear q1 q2 q3
 refine held_go hK (by exact hS.trans q4) fun hS=>?_
 clear hK K
 try simp only [zp]
 clear q4
 iterate 7
  refine hP hS ?_
 refine held_end ?_
 have c3':=HC3.out.blk.cell 3
 have f3':=HC3.out.blk.frozen 3
 have hseek:=Lib.hid (HC3.out.seek ((a+sz:Nat):Int))
 obtain ⟨q,hq⟩:∃ q,q=a+sz:=⟨_,rfl⟩
 rw [<-hq] at hseek
 have Hq:=Lib.hid hq
 have hsum:(a:Int)+(sz:Int)=(q:Int):=by omega
 have hsz2:q<=m:=by have:=Hsz.out.1;omega
 have hmm:m<=9223372036854775807:=by omega
 clear hq
 go_wp2
 go_ret2
 have hq2:=Hq.out
 subst hq2
 rw [Hr0.out]
 exact ⟨A3,c3,rfl,Q.out.1,Q.out.2.1,(Q.out.2.2.notin (i:=3) (v:=.int .i64 ((a+sz:Nat):Int)) HC3.out.blk (not_bls _)).more (by simp),hseek.out,hsz2,HB3.out.setCell (p:=⟨g,3,none⟩) HC.out.far _,HP3.out.set 3 _⟩
theorem own_caps {w:World} {base:Nat} {e:TypeId} {size n c:Nat} {A:Option Addr} {xs:List Value} (h:w.ownsRow base e size (.slice A n c) n xs):n<=c/\c<=maxLen:=by
 obtain ⟨A2,c2,h1,h2,h3⟩:=own_shape h
 injection h1 with _ _ h4
 subst h4
 exact ⟨h2,h3⟩
def getF (k:Int):Nat:=if k=1 then 195 else if k=4 then 197 else if k=5 then 198 else 196
def GotF (r:GotC) (base g:Nat) (k:Int) (a:Nat) (B:Option Addr) (m cb:Nat) (xs:List UInt8) (w:World) (e:Ending) (w':World):Prop:=
 Below base w w'/\Apart w.heap.size g w w'/\match r with
  | .error n=>e=.returned (.int .i64 (n:Int))/\n≠0
  | .ok (l,s)=>e=.returned (.int .i64 0)/\a+s<=m/\l.length<=1048576/\∃ A c,l.length<=c/\c<=maxLen/\ColG w' base base g k (a+s:Nat) A l.length c l B m cb xs
set_option maxHeartbeats 2000000 in
theorem getBools_any (base g:Nat) (a:Nat) (B:Option Addr) (m cb:Nat) (xs:List UInt8) (n:Int) (w:World) (h:ColG w base base g 1 a none 0 0 [] B m cb xs) (ha:a<=m) (hn1 : -9223372036854775808<=n) (hn2:n<=9223372036854775807) :
  Calls Tryz.prog 195 #[.pointer (some ⟨g,0,none⟩),.int .i64 n] w (GotF (getB 1 (xs.drop a) n) base g 1 a B m cb xs w):=by
 obtain ⟨j0,hj0,hk0,hj1,hk2⟩:=info_parts cell_info
 have H:=Lib.hid h
 clear h
 go_enter Tryz.func195,Tryz.ntmps195
 go_wp2_with fail
 with_reducible refine (bools_any base g 1 a B m cb xs n _ H.out ha hn1 hn2).mono ?_
 rintro e w1 ⟨AL,cL,rfl,q1,q2,q3,q4,q5,q6,q7⟩
 have hus:=(unpackL_size (xs.drop a) n).2.1
 have hgb:getB 1 (xs.drop a) n=(if (unpackL (xs.drop a) n).2.2=0 then .ok ((unpackL (xs.drop a) n).1.map boolC,(unpackL (xs.drop a) n).2.1) else .error (unpackL (xs.drop a) n).2.2):=by simp only [getB,if_true]
 have hemp:(unpackL (xs.drop a) n).2.2≠0->(unpackL (xs.drop a) n).1=[]:=by
  rcases unpackL_only (xs.drop a) n with ⟨l,t,e,-⟩ | ⟨e,h,-⟩
  ·rw [e];intro h;exact absurd rfl h
  rw [h];intro _;rfl
 have Hgb:=Lib.hid hgb
 clear hgb
 generalize unpackL (xs.drop a) n=r at *
 obtain ⟨bl,sz,er⟩:=r
 simp only at q1 q2 q3 q4 q5 q6 hus hemp Hgb
 have HSZ:=Lib.hid (fun _:er=0=>q5)
 have Q1:=Lib.hid q1
 have Q2:=Lib.hid q2
 have Hemp:=Lib.hid hemp
 have Hus:=Lib.hid hus
 obtain ⟨bc,hbc⟩:∃ bc,bc=w1.heap.size:=⟨_,rfl⟩
 rw [<-hbc] at q3
 have HC:=Lib.hid (q4.fresh (b2:=bc) (by rw [hbc];exact q4.base_le))
 have HL:=Lib.hid q3
 have HB:=Lib.hid q6
 have HP:=Lib.hid q7
 have Hbw:=Lib.hid (show w.heap.size<=bc by rw [hbc];exact q6.size)
 have HB1:=Lib.hid (show bc<=w1.heap.size by omega)
 clear q1 q2 q3 q4 q5 q6 q7 hemp hus hbc
 go_wp2
 go_loopw [18] (fun i wr=>∃ (j:Nat) (A1:Option Addr) (c1:Nat),j<=bl.length/\i=.int .i64 (j:Int)/\Hid (ColG wr base bc g 1 (a+sz:Nat) A1 j c1 ((bl.take j).map boolC) B m cb xs)/\Hid (Reads wr bc 1 AL bl.length (bls bl))/\Hid (bc<=wr.heap.size)/\Hid (Apart w.heap.size g w wr)/\Hid (Below base w wr)) (fun i _=>bl.length-(intOf i).toNat)
 case atStart=>exact ⟨0,none,0,Nat.zero_le _,rfl,by simpa using HC,HL,HB1,HP,HB⟩
 case round=>
  obtain ⟨j,A1,c1,hj,rfl,HC,HL,HB1,HP,HB⟩:=hrel
  by_cases hlt:j<bl.length
  ·obtain ⟨ad,u,rfl,hbk,hu,hcell⟩:=HL.out.at_ hlt
   obtain ⟨is,hx,rfl⟩:=bls_get _ _ _ hu
   have Hx:=Lib.hid hx
   clear hu hx hbk
   have hlow:=HC.out.low (Nat.le_refl _)
   have Hrow:=Lib.hid hlow.1
   have Hgp:=Lib.hid hlow.2
   have Hnx:=Lib.hid (show j<=2097152 by have:=Hus.out;omega)
   have HC:=Lib.hid (HC.out.below ((Below.refl _ wr).alloc (Nat.le_refl _) (.cells #[.bool false,.int .i64 (if is=true then 1 else 0),.string ⟨#[]⟩] 23)))
   have HX:=Lib.hid (Blk.new wr 23 #[.bool false,.int .i64 (if is=true then 1 else 0),.string ⟨#[]⟩])
   have HL:=Lib.hid (HL.out.alloc HB1.out (.cells #[.bool false,.int .i64 (if is=true then 1 else 0),.string ⟨#[]⟩] 23))
   have HP:=Lib.hid (HP.out.alloc HB.out.size (.cells #[.bool false,.int .i64 (if is=true then 1 else 0),.string ⟨#[]⟩] 23))
   have HB:=Lib.hid (HB.out.alloc (Nat.le_trans HC.out.low0 HB1.out) (.cells #[.bool false,.int .i64 (if is=true then 1 else 0),.string ⟨#[]⟩] 23))
   have Hbs:=Lib.hid (Nat.le_trans HB1.out (by simp):bc<=(wr.alloc (.cells #[.bool false,.int .i64 (if is=true then 1 else 0),.string ⟨#[]⟩] 23)).heap.size)
   have HB1:=Hbs
   obtain ⟨W0,hW0⟩:∃ W0,W0=wr.alloc (.cells #[.bool false,.int .i64 (if is=true then 1 else 0),.string ⟨#[]⟩] 23):=⟨_,rfl⟩
   rw [<-hW0] at HC HX HL HB HP Hbs HB1
   cases is with
   | false=>
    go_wp2
    simp only [Bool.false_eq_true,if_false] at hW0 HX
    rw [<-hW0]
    clear hW0 hcell
    have hS:Below base W0 W0.drew/\Blk W0.drew wr.heap.size 23 #[.bool false,.int .i64 0,.string ⟨#[]⟩]:=⟨(Below.refl _ _).drew,HX.out⟩
    have HV0:=Lib.hid (show ∀ w',Below base W0 w'/\Blk w' wr.heap.size 23 #[.bool false,.int .i64 0,.string ⟨#[]⟩]->w'.cell? ⟨wr.heap.size,0,none⟩=some (.bool false) from fun w' h=>h.2.cell 0)
    have HV1:=Lib.hid (show ∀ w',Below base W0 w'/\Blk w' wr.heap.size 23 #[.bool false,.int .i64 0,.string ⟨#[]⟩]->w'.cell? ⟨wr.heap.size,1,none⟩=some (.int .i64 0) from fun w' h=>h.2.cell 1)
    have HV2:=Lib.hid (show ∀ w',Below base W0 w'/\Blk w' wr.heap.size 23 #[.bool false,.int .i64 0,.string ⟨#[]⟩]->w'.cell? ⟨wr.heap.size,2,none⟩=some (.string ⟨#[]⟩) from fun w' h=>h.2.cell 2)
    have HCW:=HC
    have HC:=Lib.hid (HC.out.onDrew)
    refine nR (fun w'=>Below base W0 w'/\Blk w' wr.heap.size 23 #[.bool false,.int .i64 0,.string ⟨#[]⟩]) (.pure 0 (.pure 1 (.pure 2 (.pure 3 (.pure 5 (.fork 4 6 (.eff 6 (.eff 7 (.pure 8 (.pure 9 (.eff 10 .done))))) (.eff 4 (.eff 7 (.pure 8 (.pure 9 (.eff 10 .done))))))))))) ?_
    iterate 4
     refine nP hS ?_
    refine nP3 hS HV0.out HV1.out HV2.out ?_
    refine plan_fork ?_ ?_
    ·have c1:=HC.out.blk.cell 1
     refine nE fun K hK=>?_
     go_simp
     refine held_go hK hS fun hS=>?_
     clear hK K
     try simp only [zp]
     clear c1
     refine nE fun K hK=>?_
     go_simp
     have HR:=Lib.hid ((reads_cell W0 false 0 ⟨#[]⟩).drew)
     have HC:=Lib.hid ((HCW.out.below ((Below.refl _ W0).alloc (Nat.le_refl _) (.cells #[.bool false,.int .i64 0,.string ⟨#[]⟩] 23))).onDrew)
     refine held_go hK (by exact ⟨hS.1.alloc (Nat.le_trans (Nat.le_trans HC.out.low0 Hbs.out) hS.1.size) _,hS.2.alloc _⟩) fun hS=>?_
     clear hK K
     try simp only [zp]
     refine nE fun K hK=>?_
     refine wp_append_any _ (.tmp 29) (.tmp 31) 24 rfl bc 23 j0 (.agg #[.bool false,.int .i64 0,.string ⟨#[]⟩]) 3 32 Tryz.underlying24 hj0 hk0 hj1 hk2 rfl (by decide) A1 j c1 _ rfl HC.out.cells (some ⟨_,0,none⟩) 1 1 (cls [(false,0,⟨#[]⟩)]) rfl HR.out (cls_one _) (by have:=Hnx.out;simp only [maxLen];omega) (by have:=Hnx.out;omega) (Nat.le_trans Hbs.out hS.1.size) ?_
     intro A9 c9 w9 r1 r2 r3 r4 r5
     rw [<-cls_append] at r1
     have HA:=Lib.hid (HC.out.app r3 r2 r1)
     have R2:=Lib.hid r2
     have r2:=r2.mono HC.out.low0
     have HX9:=Lib.hid (blk_row hS.2 r3 Hrow.out)
     have hT:=Lib.hid (hS.1.trans r2)
     have G9:=Lib.hid r3
     clear r1 r2 r3 r4 r5
     refine held_go hK (by exact ⟨hT.out,HX9.out⟩) fun hS=>?_
     clear hK K
     try simp only [zp]
     refine nP hS ?_
     refine nP hS ?_
     have c2:=HA.out.2.cell 1
     have f2:=HA.out.2.frozen 1
     refine nE fun K hK=>?_
     go_simp
     clear c2 f2
     refine held_go hK (by exact ⟨hT.out.setCell (p:=⟨g,1,none⟩) HC.out.far _,HX9.out.far (p:=⟨g,1,none⟩) Hgp.out.symm _⟩) fun hS=>?_
     clear hK K
     try simp only [zp]
     refine plan_end ?_
     have hT:=Lib.hid (hT.out.setCell (p:=⟨g,1,none⟩) HC.out.far (.slice A9 (j+1) c9))
     clear HX9 HR
     clear HV0 HV1 HV2
     have HC:=Lib.hid (show ColG _ base bc g 1 (a+sz:Nat) A9 (j+1) c9 ((bl.take (j+1)).map boolC) B m cb xs by
      have:=HA.out.1
      rw [List.take_add_one,Hx.out,List.map_append]
      exact this)
     have HL:=Lib.hid (((((HL.out.alloc HB1.out _).drew).below R2.out).notin (i:=1) (v:=.slice A9 (j+1) c9) HA.out.2 (not_bls _)))
     have HP:=Lib.hid (((HP.out.alloc HB.out.size (.cells #[.bool false,.int .i64 _,.string ⟨#[]⟩] 23)).drew.below R2.out Hbw.out).set 1 (.slice A9 (j+1) c9))
     have HB:=Lib.hid (HB.out.trans hT.out)
     have HB1:=Lib.hid (show bc<=(w9.setCell ⟨g,1,none⟩ (.slice A9 (j+1) c9)).heap.size by have h1:=R2.out.size;have h2:=HB1.out;simp at h1 ⊢;omega)
     have hus1:=Hus.out
     go_wp2
     go_roundw
     case rel=>exact ⟨j+1,A9,c9,by omega,by go_num,HC,HL,HB1,HP,HB⟩
     case measure=>simp [intOf];omega
    refine nE fun K hK=>?_
    go_simp
    have HR:=Lib.hid ((reads_cell W0 false 0 ⟨#[]⟩).drew)
    have HC:=Lib.hid ((HCW.out.below ((Below.refl _ W0).alloc (Nat.le_refl _) (.cells #[.bool false,.int .i64 0,.string ⟨#[]⟩] 23))).onDrew)
    refine held_go hK (by exact ⟨hS.1.alloc (Nat.le_trans (Nat.le_trans HC.out.low0 Hbs.out) hS.1.size) _,hS.2.alloc _⟩) fun hS=>?_
    clear hK K
    try simp only [zp]
    have c1:=HC.out.blk.cell 1
    refine nE fun K hK=>?_
    go_simp
    refine held_go hK hS fun hS=>?_
    clear hK K
    try simp only [zp]
    clear c1
    refine nE fun K hK=>?_
    refine wp_append_any _ (.tmp 29) (.tmp 31) 24 rfl bc 23 j0 (.agg #[.bool false,.int .i64 0,.string ⟨#[]⟩]) 3 32 Tryz.underlying24 hj0 hk0 hj1 hk2 rfl (by decide) A1 j c1 _ rfl HC.out.cells (some ⟨_,0,none⟩) 1 1 (cls [(false,0,⟨#[]⟩)]) rfl HR.out (cls_one _) (by have:=Hnx.out;simp only [maxLen];omega) (by have:=Hnx.out;omega) (Nat.le_trans Hbs.out hS.1.size) ?_
    intro A9 c9 w9 r1 r2 r3 r4 r5
    rw [<-cls_append] at r1
    have HA:=Lib.hid (HC.out.app r3 r2 r1)
    have R2:=Lib.hid r2
    have r2:=r2.mono HC.out.low0
    have HX9:=Lib.hid (blk_row hS.2 r3 Hrow.out)
    have hT:=Lib.hid (hS.1.trans r2)
    have G9:=Lib.hid r3
    clear r1 r2 r3 r4 r5
    refine held_go hK (by exact ⟨hT.out,HX9.out⟩) fun hS=>?_
    clear hK K
    try simp only [zp]
    refine nP hS ?_
    refine nP hS ?_
    have c2:=HA.out.2.cell 1
    have f2:=HA.out.2.frozen 1
    refine nE fun K hK=>?_
    go_simp
    clear c2 f2
    refine held_go hK (by exact ⟨hT.out.setCell (p:=⟨g,1,none⟩) HC.out.far _,HX9.out.far (p:=⟨g,1,none⟩) Hgp.out.symm _⟩) fun hS=>?_
    clear hK K
    try simp only [zp]
    refine plan_end ?_
    have hT:=Lib.hid (hT.out.setCell (p:=⟨g,1,none⟩) HC.out.far (.slice A9 (j+1) c9))
    clear HX9 HR
    clear HV0 HV1 HV2
    have HC:=Lib.hid (show ColG _ base bc g 1 (a+sz:Nat) A9 (j+1) c9 ((bl.take (j+1)).map boolC) B m cb xs by
     have:=HA.out.1
     rw [List.take_add_one,Hx.out,List.map_append]
     exact this)
    have HL:=Lib.hid (((((HL.out.alloc HB1.out _).drew).below R2.out).notin (i:=1) (v:=.slice A9 (j+1) c9) HA.out.2 (not_bls _)))
    have HP:=Lib.hid (((HP.out.alloc HB.out.size (.cells #[.bool false,.int .i64 _,.string ⟨#[]⟩] 23)).drew.below R2.out Hbw.out).set 1 (.slice A9 (j+1) c9))
    have HB:=Lib.hid (HB.out.trans hT.out)
    have HB1:=Lib.hid (show bc<=(w9.setCell ⟨g,1,none⟩ (.slice A9 (j+1) c9)).heap.size by have h1:=R2.out.size;have h2:=HB1.out;simp at h1 ⊢;omega)
    have hus1:=Hus.out
    go_wp2
    go_roundw
    case rel=>exact ⟨j+1,A9,c9,by omega,by go_num,HC,HL,HB1,HP,HB⟩
    case measure=>simp [intOf];omega
   | true=>
    go_wp2
    simp only [if_true] at hW0 HX
    rw [<-hW0]
    clear hW0 hcell
    have hS:Below base W0 W0.drew/\Blk W0.drew wr.heap.size 23 #[.bool false,.int .i64 1,.string ⟨#[]⟩]:=⟨(Below.refl _ _).drew,HX.out⟩
    have HV0:=Lib.hid (show ∀ w',Below base W0 w'/\Blk w' wr.heap.size 23 #[.bool false,.int .i64 1,.string ⟨#[]⟩]->w'.cell? ⟨wr.heap.size,0,none⟩=some (.bool false) from fun w' h=>h.2.cell 0)
    have HV1:=Lib.hid (show ∀ w',Below base W0 w'/\Blk w' wr.heap.size 23 #[.bool false,.int .i64 1,.string ⟨#[]⟩]->w'.cell? ⟨wr.heap.size,1,none⟩=some (.int .i64 1) from fun w' h=>h.2.cell 1)
    have HV2:=Lib.hid (show ∀ w',Below base W0 w'/\Blk w' wr.heap.size 23 #[.bool false,.int .i64 1,.string ⟨#[]⟩]->w'.cell? ⟨wr.heap.size,2,none⟩=some (.string ⟨#[]⟩) from fun w' h=>h.2.cell 2)
    have HCW:=HC
    have HC:=Lib.hid (HC.out.onDrew)
    refine nR (fun w'=>Below base W0 w'/\Blk w' wr.heap.size 23 #[.bool false,.int .i64 1,.string ⟨#[]⟩]) (.pure 0 (.pure 1 (.pure 2 (.pure 3 (.pure 5 (.fork 4 6 (.eff 6 (.eff 7 (.pure 8 (.pure 9 (.eff 10 .done))))) (.eff 4 (.eff 7 (.pure 8 (.pure 9 (.eff 10 .done))))))))))) ?_
    iterate 4
     refine nP hS ?_
    refine nP3 hS HV0.out HV1.out HV2.out ?_
    refine plan_fork ?_ ?_
    ·have c1:=HC.out.blk.cell 1
     refine nE fun K hK=>?_
     go_simp
     refine held_go hK hS fun hS=>?_
     clear hK K
     try simp only [zp]
     clear c1
     refine nE fun K hK=>?_
     go_simp
     have HR:=Lib.hid ((reads_cell W0 false 1 ⟨#[]⟩).drew)
     have HC:=Lib.hid ((HCW.out.below ((Below.refl _ W0).alloc (Nat.le_refl _) (.cells #[.bool false,.int .i64 1,.string ⟨#[]⟩] 23))).onDrew)
     refine held_go hK (by exact ⟨hS.1.alloc (Nat.le_trans (Nat.le_trans HC.out.low0 Hbs.out) hS.1.size) _,hS.2.alloc _⟩) fun hS=>?_
     clear hK K
     try simp only [zp]
     refine nE fun K hK=>?_
     refine wp_append_any _ (.tmp 29) (.tmp 31) 24 rfl bc 23 j0 (.agg #[.bool false,.int .i64 0,.string ⟨#[]⟩]) 3 32 Tryz.underlying24 hj0 hk0 hj1 hk2 rfl (by decide) A1 j c1 _ rfl HC.out.cells (some ⟨_,0,none⟩) 1 1 (cls [(false,1,⟨#[]⟩)]) rfl HR.out (cls_one _) (by have:=Hnx.out;simp only [maxLen];omega) (by have:=Hnx.out;omega) (Nat.le_trans Hbs.out hS.1.size) ?_
     intro A9 c9 w9 r1 r2 r3 r4 r5
     rw [<-cls_append] at r1
     have HA:=Lib.hid (HC.out.app r3 r2 r1)
     have R2:=Lib.hid r2
     have r2:=r2.mono HC.out.low0
     have HX9:=Lib.hid (blk_row hS.2 r3 Hrow.out)
     have hT:=Lib.hid (hS.1.trans r2)
     have G9:=Lib.hid r3
     clear r1 r2 r3 r4 r5
     refine held_go hK (by exact ⟨hT.out,HX9.out⟩) fun hS=>?_
     clear hK K
     try simp only [zp]
     refine nP hS ?_
     refine nP hS ?_
     have c2:=HA.out.2.cell 1
     have f2:=HA.out.2.frozen 1
     refine nE fun K hK=>?_
     go_simp
     clear c2 f2
     refine held_go hK (by exact ⟨hT.out.setCell (p:=⟨g,1,none⟩) HC.out.far _,HX9.out.far (p:=⟨g,1,none⟩) Hgp.out.symm _⟩) fun hS=>?_
     clear hK K
     try simp only [zp]
     refine plan_end ?_
     have hT:=Lib.hid (hT.out.setCell (p:=⟨g,1,none⟩) HC.out.far (.slice A9 (j+1) c9))
     clear HX9 HR
     clear HV0 HV1 HV2
     have HC:=Lib.hid (show ColG _ base bc g 1 (a+sz:Nat) A9 (j+1) c9 ((bl.take (j+1)).map boolC) B m cb xs by
      have:=HA.out.1
      rw [List.take_add_one,Hx.out,List.map_append]
      exact this)
     have HL:=Lib.hid (((((HL.out.alloc HB1.out _).drew).below R2.out).notin (i:=1) (v:=.slice A9 (j+1) c9) HA.out.2 (not_bls _)))
     have HP:=Lib.hid (((HP.out.alloc HB.out.size (.cells #[.bool false,.int .i64 _,.string ⟨#[]⟩] 23)).drew.below R2.out Hbw.out).set 1 (.slice A9 (j+1) c9))
     have HB:=Lib.hid (HB.out.trans hT.out)
     have HB1:=Lib.hid (show bc<=(w9.setCell ⟨g,1,none⟩ (.slice A9 (j+1) c9)).heap.size by have h1:=R2.out.size;have h2:=HB1.out;simp at h1 ⊢;omega)
     have hus1:=Hus.out
     go_wp2
     go_roundw
     case rel=>exact ⟨j+1,A9,c9,by omega,by go_num,HC,HL,HB1,HP,HB⟩
     case measure=>simp [intOf];omega
    refine nE fun K hK=>?_
    go_simp
    have HR:=Lib.hid ((reads_cell W0 false 1 ⟨#[]⟩).drew)
    have HC:=Lib.hid ((HCW.out.below ((Below.refl _ W0).alloc (Nat.le_refl _) (.cells #[.bool false,.int .i64 1,.string ⟨#[]⟩] 23))).onDrew)
    refine held_go hK (by exact ⟨hS.1.alloc (Nat.le_trans (Nat.le_trans HC.out.low0 Hbs.out) hS.1.size) _,hS.2.alloc _⟩) fun hS=>?_
    clear hK K
    try simp only [zp]
    have c1:=HC.out.blk.cell 1
    refine nE fun K hK=>?_
    go_simp
    refine held_go hK hS fun hS=>?_
    clear hK K
    try simp only [zp]
    clear c1
    refine nE fun K hK=>?_
    refine wp_append_any _ (.tmp 29) (.tmp 31) 24 rfl bc 23 j0 (.agg #[.bool false,.int .i64 0,.string ⟨#[]⟩]) 3 32 Tryz.underlying24 hj0 hk0 hj1 hk2 rfl (by decide) A1 j c1 _ rfl HC.out.cells (some ⟨_,0,none⟩) 1 1 (cls [(false,1,⟨#[]⟩)]) rfl HR.out (cls_one _) (by have:=Hnx.out;simp only [maxLen];omega) (by have:=Hnx.out;omega) (Nat.le_trans Hbs.out hS.1.size) ?_
    intro A9 c9 w9 r1 r2 r3 r4 r5
    rw [<-cls_append] at r1
    have HA:=Lib.hid (HC.out.app r3 r2 r1)
    have R2:=Lib.hid r2
    have r2:=r2.mono HC.out.low0
    have HX9:=Lib.hid (blk_row hS.2 r3 Hrow.out)
    have hT:=Lib.hid (hS.1.trans r2)
    have G9:=Lib.hid r3
    clear r1 r2 r3 r4 r5
    refine held_go hK (by exact ⟨hT.out,HX9.out⟩) fun hS=>?_
    clear hK K
    try simp only [zp]
    refine nP hS ?_
    refine nP hS ?_
    have c2:=HA.out.2.cell 1
    have f2:=HA.out.2.frozen 1
    refine nE fun K hK=>?_
    go_simp
    clear c2 f2
    refine held_go hK (by exact ⟨hT.out.setCell (p:=⟨g,1,none⟩) HC.out.far _,HX9.out.far (p:=⟨g,1,none⟩) Hgp.out.symm _⟩) fun hS=>?_
    clear hK K
    try simp only [zp]
    refine plan_end ?_
    have hT:=Lib.hid (hT.out.setCell (p:=⟨g,1,none⟩) HC.out.far (.slice A9 (j+1) c9))
    clear HX9 HR
    clear HV0 HV1 HV2
    have HC:=Lib.hid (show ColG _ base bc g 1 (a+sz:Nat) A9 (j+1) c9 ((bl.take (j+1)).map boolC) B m cb xs by
     have:=HA.out.1
     rw [List.take_add_one,Hx.out,List.map_append]
     exact this)
    have HL:=Lib.hid (((((HL.out.alloc HB1.out _).drew).below R2.out).notin (i:=1) (v:=.slice A9 (j+1) c9) HA.out.2 (not_bls _)))
    have HP:=Lib.hid (((HP.out.alloc HB.out.size (.cells #[.bool false,.int .i64 _,.string ⟨#[]⟩] 23)).drew.below R2.out Hbw.out).set 1 (.slice A9 (j+1) c9))
    have HB:=Lib.hid (HB.out.trans hT.out)
    have HB1:=Lib.hid (show bc<=(w9.setCell ⟨g,1,none⟩ (.slice A9 (j+1) c9)).heap.size by have h1:=R2.out.size;have h2:=HB1.out;simp at h1 ⊢;omega)
    have hus1:=Hus.out
    go_wp2
    go_roundw
    case rel=>exact ⟨j+1,A9,c9,by omega,by go_num,HC,HL,HB1,HP,HB⟩
    case measure=>simp [intOf];omega
  obtain rfl:j=bl.length:=by omega
  go_wp2
  go_ret
  rw [Hgb.out]
  refine ⟨HB.out,HP.out,?_⟩
  by_cases he:er=0
  ·subst he
   have hl:=HC.out
   rw [List.take_of_length_le (Nat.le_refl _)] at hl
   have hm:=HSZ.out rfl
   simp only [if_true,List.length_map]
   obtain ⟨q1,q2⟩:=own_caps hl.cells
   exact ⟨rfl,hm,Hus.out,A1,c1,q1,q2,hl.floor⟩
  simp only [if_neg he]
  exact ⟨rfl,he⟩
end Go.Proofs.YtjpjalmilfgckaaGreatDoor
