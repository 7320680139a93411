/- Part 18 of the walks, merged: each text under its own heading. Conditions: none of its own; each lemma states what it asks. -/
import Derived.Test.YtjpjalmilfgckaaGreatDoorIm7
import Derived.Test.YtjpjalmilfgckaaGreatDoorIm11
import Derived.Test.YtjpjalmilfgckaaGreatDoorIm14
import Derived.Test.YtjpjalmilfgckaaGreatDoorIm15
import Derived.Test.YtjpjalmilfgckaaGreatDoorIm16
import Derived.Test.YtjpjalmilfgckaaGreatDoorIm17
set_option maxRecDepth 100000
set_option linter.unusedVariables false
set_option linter.unusedSimpArgs false
namespace Go.Proofs.YtjpjalmilfgckaaGreatDoor
open Go.RowKit
def MkOk (l:List Mk):Prop:=∀ m∈l,m.1.size<=maxLen /\ -9223372036854775808<=m.2/\m.2<=9223372036854775807
theorem markF_name {p:Option Mk} {m:Mk} (h:nameB m.1=false):markF p m=false:=by unfold markF;rw [h];rfl
theorem markF_off {p:Option Mk} {m:Mk} (h:¬(0<=m.2/\m.2<=9007199254740991)):markF p m=false:=by unfold markF;rw [decide_eq_false h,Bool.and_false];rfl
theorem markF_none {m:Mk} (h:nameB m.1=true) (h2:0<=m.2/\m.2<=9007199254740991):markF none m=true:=by unfold markF;rw [h,decide_eq_true h2];rfl
theorem markF_some {p m:Mk} (h:nameB m.1=true) (h2:0<=m.2/\m.2<=9007199254740991):markF (some p) m=lessB p.1 m.1:=by unfold markF;rw [h,decide_eq_true h2];rfl
set_option maxHeartbeats 2000000 in
theorem marks_any (A:Option Addr) (n c:Nat) (l:List Mk) (w:World) (hr:Reads w w.heap.size 2 A n (mks l)) (hn:n<=maxLen) (hok:MkOk l) :
  Calls Tryz.prog 125 #[.slice A n c] w fun e w'=>e=.returned (.bool (marksB l))/\Below w.heap.size w w':=by
 have Hr:=Lib.hid hr
 have hl:=mks_len hr
 have hn63:n<=9223372036854775807:=by simp only [maxLen] at hn;omega
 have Hok:=Lib.hid hok
 clear hr hn hok
 go_enter Tryz.func125,Tryz.ntmps125
 go_wp2
 go_loopw [7] (fun kv wr=>∃ k:Nat,k<=n/\kv=.int .i64 (k:Int)/\Hid (allPrev markF none l=allPrev markF (prevL l k) (l.drop k))/\Hid (Below w.heap.size w wr)) (fun kv _=>n-(intOf kv).toNat)
 case atStart=>exact ⟨0,Nat.zero_le _,rfl,Lib.hid rfl,Lib.hid (Below.refl _ _)⟩
 case round=>
  obtain ⟨k,hk,rfl,HR,HB⟩:=hrel
  by_cases hlt:k<n
  ·have d1:decide ((k:Int)<(n:Int))=true:=by simp;omega
   have hki:(k:Int)<(n:Int):=by omega
   obtain ⟨ad,m,rfl,hbk,hm,hat⟩:=mks_at (Hr.out.below HB.out) hlt
   have c0:=hat.c0
   have c1:=hat.c1
   have hsz:=(Hok.out m (List.mem_of_getElem? hm)).1
   have HS:=Lib.hid (show allPrev markF none l=(markF (prevL l k) m&&allPrev markF (prevL l (k+1)) (l.drop (k+1))) by rw [HR.out,allPrev_step markF hm])
   have Hm:=Lib.hid hm
   clear hat hm hbk HR
   obtain ⟨nm,of⟩:=m
   simp only at c0 c1 hsz
   have HL:=Lib.hid (bal HB.out (.cells #[.string nm,.int .i64 of] 90))
   have BX:=Lib.hid (Blk.new wr 90 #[.string nm,.int .i64 of])
   cases hq:nameB nm with
   | false=>
    have HN:=Lib.hid (show marksB l=false by unfold marksB;rw [HS.out,markF_name hq];rfl)
    have Hq:=Lib.hid hq
    clear hq HS
    go_wp2
    generalize hW1:wr.alloc (.cells #[.string nm,.int .i64 of] 90)=W1
    rw [hW1] at HL BX
    have H0:=Lib.hid (show ∀ w',Below W1.heap.size W1 w'->w'.cell? ⟨wr.heap.size,0,none⟩=some (.string nm) from fun w' h=>(BX.out.on h).cell 0)
    have H1:=Lib.hid (show ∀ w',Below W1.heap.size W1 w'->w'.cell? ⟨wr.heap.size,1,none⟩=some (.int .i64 of) from fun w' h=>(BX.out.on h).cell 1)
    have HW1:=Lib.hid hW1
    clear hW1
    have hS:Below W1.heap.size W1 W1.drew:=(Below.refl _ _).drew
    refine hR (fun w'=>Below W1.heap.size W1 w') [ff 0,ff 1,tt 2,ff 3,ff 4,ff 5,ff 6,ff 7,ff 8,ff 9,ff 10,ff 11,ff 12,ff 13,ff 14,ff 15,ff 16,ff 17,ff 18,ff 19,ff 20,ff 21,ff 22,ff 23,ff 24,ff 25,ff 26,ff 27,ff 28] ?_
    refine hP hS ?_
    refine hP1 hS H0.out ?_
    refine hE fun K hK=>?_
    go_simp
    with_reducible refine (isn_any nm _ hsz).mono ?_
    rintro e w5 ⟨rfl,hb5⟩
    rw [Hq.out]
    have HS:=Lib.hid (bon hS hb5)
    clear hb5
    refine held_go hK (by exact HS.out) fun hS=>?_
    clear hK K
    try simp only [zp]
    clear HS
    refine hP hS ?_
    refine hP hS ?_
    refine hO hS ?_
    refine hO hS ?_
    refine hO hS ?_
    refine hP hS ?_
    refine hP hS ?_
    refine hO hS ?_
    refine hO hS ?_
    refine hO hS ?_
    refine hP hS ?_
    refine hP hS ?_
    refine hO hS ?_
    refine hO hS ?_
    refine hO hS ?_
    refine hO hS ?_
    refine hO hS ?_
    refine hO hS ?_
    refine hO hS ?_
    refine hO hS ?_
    refine hO hS ?_
    refine hO hS ?_
    refine hO hS ?_
    refine hO hS ?_
    refine hO hS ?_
    refine hP hS ?_
    refine held_end ?_
    go_wp2
    go_ret
    exact ⟨by rw [HN.out];rfl,bon HL.out hS⟩
   | true=>
    have Hq:=Lib.hid hq
    clear hq
    by_cases r1:of<0
    ·have e1:decide (of<0)=true:=by simpa using r1
     have HN:=Lib.hid (show marksB l=false by unfold marksB;rw [HS.out,markF_off (by simp only;omega)];rfl)
     go_wp2
     generalize hW1:wr.alloc (.cells #[.string nm,.int .i64 of] 90)=W1
     rw [hW1] at HL BX
     have H0:=Lib.hid (show ∀ w',Below W1.heap.size W1 w'->w'.cell? ⟨wr.heap.size,0,none⟩=some (.string nm) from fun w' h=>(BX.out.on h).cell 0)
     have H1:=Lib.hid (show ∀ w',Below W1.heap.size W1 w'->w'.cell? ⟨wr.heap.size,1,none⟩=some (.int .i64 of) from fun w' h=>(BX.out.on h).cell 1)
     have HW1:=Lib.hid hW1
     clear hW1
     have hS:Below W1.heap.size W1 W1.drew:=(Below.refl _ _).drew
     refine hR (fun w'=>Below W1.heap.size W1 w') [ff 0,ff 1,tt 2,ff 3,ff 4,ff 5,ff 6,ff 7,ff 8,ff 9,ff 10,ff 11,ff 12,ff 13,ff 14,ff 15,ff 16,ff 17,ff 18,ff 19,ff 20,ff 21,ff 22,ff 23,ff 24,ff 25,ff 26,ff 27,ff 28] ?_
     refine hP hS ?_
     refine hP1 hS H0.out ?_
     refine hE fun K hK=>?_
     go_simp
     with_reducible refine (isn_any nm _ hsz).mono ?_
     rintro e w5 ⟨rfl,hb5⟩
     rw [Hq.out]
     have HS:=Lib.hid (bon hS hb5)
     clear hb5
     refine held_go hK (by exact HS.out) fun hS=>?_
     clear hK K
     try simp only [zp]
     clear HS
     iterate 3
      refine hP hS ?_
     refine hP1 hS H1.out ?_
     iterate 3
      refine hP hS ?_
     refine hO hS ?_
     refine hO hS ?_
     refine hO hS ?_
     refine hP hS ?_
     refine hP hS ?_
     refine hO hS ?_
     refine hO hS ?_
     refine hO hS ?_
     refine hO hS ?_
     refine hO hS ?_
     refine hO hS ?_
     refine hO hS ?_
     refine hO hS ?_
     refine hO hS ?_
     refine hO hS ?_
     refine hO hS ?_
     refine hO hS ?_
     refine hO hS ?_
     refine hP hS ?_
     refine held_end ?_
     go_wp2
     go_ret
     exact ⟨by rw [HN.out];rfl,bon HL.out hS⟩
    have e1:decide (of<0)=false:=by simpa using r1
    by_cases r2:9007199254740991<of
    ·have e2:decide (9007199254740991<of)=true:=by simpa using r2
     have HN:=Lib.hid (show marksB l=false by unfold marksB;rw [HS.out,markF_off (by simp only;omega)];rfl)
     go_wp2
     generalize hW1:wr.alloc (.cells #[.string nm,.int .i64 of] 90)=W1
     rw [hW1] at HL BX
     have H0:=Lib.hid (show ∀ w',Below W1.heap.size W1 w'->w'.cell? ⟨wr.heap.size,0,none⟩=some (.string nm) from fun w' h=>(BX.out.on h).cell 0)
     have H1:=Lib.hid (show ∀ w',Below W1.heap.size W1 w'->w'.cell? ⟨wr.heap.size,1,none⟩=some (.int .i64 of) from fun w' h=>(BX.out.on h).cell 1)
     have HW1:=Lib.hid hW1
     clear hW1
     have hS:Below W1.heap.size W1 W1.drew:=(Below.refl _ _).drew
     refine hR (fun w'=>Below W1.heap.size W1 w') [ff 0,ff 1,tt 2,ff 3,ff 4,ff 5,ff 6,ff 7,ff 8,ff 9,ff 10,ff 11,ff 12,ff 13,ff 14,ff 15,ff 16,ff 17,ff 18,ff 19,ff 20,ff 21,ff 22,ff 23,ff 24,ff 25,ff 26,ff 27,ff 28] ?_
     refine hP hS ?_
     refine hP1 hS H0.out ?_
     refine hE fun K hK=>?_
     go_simp
     with_reducible refine (isn_any nm _ hsz).mono ?_
     rintro e w5 ⟨rfl,hb5⟩
     rw [Hq.out]
     have HS:=Lib.hid (bon hS hb5)
     clear hb5
     refine held_go hK (by exact HS.out) fun hS=>?_
     clear hK K
     try simp only [zp]
     clear HS
     iterate 3
      refine hP hS ?_
     refine hP1 hS H1.out ?_
     iterate 4
      refine hP hS ?_
     refine hP1 hS H1.out ?_
     iterate 3
      refine hP hS ?_
     refine hO hS ?_
     refine hO hS ?_
     refine hO hS ?_
     refine hO hS ?_
     refine hO hS ?_
     refine hO hS ?_
     refine hO hS ?_
     refine hO hS ?_
     refine hO hS ?_
     refine hO hS ?_
     refine hO hS ?_
     refine hO hS ?_
     refine hO hS ?_
     refine hP hS ?_
     refine held_end ?_
     go_wp2
     go_ret
     exact ⟨by rw [HN.out];rfl,bon HL.out hS⟩
    have e2:decide (9007199254740991<of)=false:=by simpa using r2
    have HO:=Lib.hid (show 0<=of/\of<=9007199254740991 from by omega)
    by_cases hk1:0<k
    ·have e3:decide (0<(k:Int))=true:=by simp;omega
     have hk1i:0<(k:Int):=by omega
     obtain ⟨ap,mp,hAp,hbp,hp,hatp⟩:=mks_at (Hr.out.below HL.out) (show k-1<n by omega)
     cases hAp
     obtain ⟨j,hj⟩:∃ j,j=k-1:=⟨_,rfl⟩
     rw [<-hj] at hp hatp
     have cp:=hatp.c0
     have Hprev:=Lib.hid (show prevL l k=some mp by unfold prevL;rw [if_neg (by omega),<-hj];exact hp)
     have hks:(k:Int)-1=(j:Int):=by omega
     have hkn:(j:Int)<(n:Int):=by omega
     have hkw:IntKind.i64.wrap (j:Int)=(j:Int):=wrap_i64 j (by omega)
     clear hatp hp hbp hj
     obtain ⟨pn,po⟩:=mp
     simp only at cp
     have HP:=Lib.hid (show ∀ w',Below (wr.alloc (.cells #[.string nm,.int .i64 of] 90)).heap.size (wr.alloc (.cells #[.string nm,.int .i64 of] 90)) w'->w'.cell? (ad.add (j*2))=some (.string pn) from fun w' h=>(h.cell (World.block_lt_of_cell? _ _ cp)).trans cp)
     clear cp
     have HN:=Lib.hid (show allPrev markF none l=(lessB pn nm&&allPrev markF (prevL l (k+1)) (l.drop (k+1))) by rw [HS.out,Hprev.out,markF_some Hq.out HO.out])
     have hlt:=lessB_toList pn nm
     cases hb:lessB pn nm with
     | true=>
      rw [hb] at hlt
      have HN:=Lib.hid (show allPrev markF none l=allPrev markF (prevL l (k+1)) (l.drop (k+1)) by rw [HN.out,hb];rfl)
      clear hb
      go_wp2
      generalize hW1:wr.alloc (.cells #[.string nm,.int .i64 of] 90)=W1
      rw [hW1] at HL BX
      have H0:=Lib.hid (show ∀ w',Below W1.heap.size W1 w'->w'.cell? ⟨wr.heap.size,0,none⟩=some (.string nm) from fun w' h=>(BX.out.on h).cell 0)
      have H1:=Lib.hid (show ∀ w',Below W1.heap.size W1 w'->w'.cell? ⟨wr.heap.size,1,none⟩=some (.int .i64 of) from fun w' h=>(BX.out.on h).cell 1)
      have HW1:=Lib.hid hW1
      clear hW1
      have hS:Below W1.heap.size W1 W1.drew:=(Below.refl _ _).drew
      refine hR (fun w'=>Below W1.heap.size W1 w') [ff 0,ff 1,tt 2,ff 3,ff 4,ff 5,ff 6,ff 7,ff 8,ff 9,ff 10,ff 11,ff 12,ff 13,ff 14,ff 15,ff 16,ff 17,ff 18,ff 19,ff 20,ff 21,ff 22,ff 23,ff 24,ff 25,ff 26,ff 27,ff 28] ?_
      refine hP hS ?_
      refine hP1 hS H0.out ?_
      refine hE fun K hK=>?_
      go_simp
      with_reducible refine (isn_any nm _ hsz).mono ?_
      rintro e w5 ⟨rfl,hb5⟩
      rw [Hq.out]
      have HS:=Lib.hid (bon hS hb5)
      clear hb5
      refine held_go hK (by exact HS.out) fun hS=>?_
      clear hK K
      try simp only [zp]
      clear HS
      iterate 3
       refine hP hS ?_
      refine hP1 hS H1.out ?_
      iterate 4
       refine hP hS ?_
      refine hP1 hS H1.out ?_
      iterate 11
       refine hP hS ?_
      rw [HW1.out] at HP
      refine hP1 hS HP.out ?_
      refine hP hS ?_
      refine hP1 hS H0.out ?_
      iterate 3
       refine hP hS ?_
      refine held_end ?_
      have HL:=Lib.hid (bon HL.out hS)
      clear hS
      go_wp2
      go_roundw
      case rel=>exact ⟨k+1,by omega,by go_num,HN,HL⟩
      case measure=>simp [intOf];omega
     | false=>
      rw [hb] at hlt
      have HN:=Lib.hid (show marksB l=false by unfold marksB;rw [HN.out,hb];rfl)
      clear hb
      go_wp2
      generalize hW1:wr.alloc (.cells #[.string nm,.int .i64 of] 90)=W1
      rw [hW1] at HL BX
      have H0:=Lib.hid (show ∀ w',Below W1.heap.size W1 w'->w'.cell? ⟨wr.heap.size,0,none⟩=some (.string nm) from fun w' h=>(BX.out.on h).cell 0)
      have H1:=Lib.hid (show ∀ w',Below W1.heap.size W1 w'->w'.cell? ⟨wr.heap.size,1,none⟩=some (.int .i64 of) from fun w' h=>(BX.out.on h).cell 1)
      have HW1:=Lib.hid hW1
      clear hW1
      have hS:Below W1.heap.size W1 W1.drew:=(Below.refl _ _).drew
      refine hR (fun w'=>Below W1.heap.size W1 w') [ff 0,ff 1,tt 2,ff 3,ff 4,ff 5,ff 6,ff 7,ff 8,ff 9,ff 10,ff 11,ff 12,ff 13,ff 14,ff 15,ff 16,ff 17,ff 18,ff 19,ff 20,ff 21,ff 22,ff 23,ff 24,ff 25,ff 26,ff 27,ff 28] ?_
      refine hP hS ?_
      refine hP1 hS H0.out ?_
      refine hE fun K hK=>?_
      go_simp
      with_reducible refine (isn_any nm _ hsz).mono ?_
      rintro e w5 ⟨rfl,hb5⟩
      rw [Hq.out]
      have HS:=Lib.hid (bon hS hb5)
      clear hb5
      refine held_go hK (by exact HS.out) fun hS=>?_
      clear hK K
      try simp only [zp]
      clear HS
      iterate 3
       refine hP hS ?_
      refine hP1 hS H1.out ?_
      iterate 4
       refine hP hS ?_
      refine hP1 hS H1.out ?_
      iterate 11
       refine hP hS ?_
      rw [HW1.out] at HP
      refine hP1 hS HP.out ?_
      refine hP hS ?_
      refine hP1 hS H0.out ?_
      iterate 3
       refine hP hS ?_
      refine held_end ?_
      go_wp2
      go_ret
      exact ⟨by rw [HN.out];rfl,bon HL.out hS⟩
    have e3:decide (0<(k:Int))=false:=by simp;omega
    have HN:=Lib.hid (show allPrev markF none l=allPrev markF (prevL l (k+1)) (l.drop (k+1)) by rw [HS.out,show prevL l k=none by unfold prevL;rw [if_pos (by omega)],markF_none Hq.out HO.out];rfl)
    go_wp2
    generalize hW1:wr.alloc (.cells #[.string nm,.int .i64 of] 90)=W1
    rw [hW1] at HL BX
    have H0:=Lib.hid (show ∀ w',Below W1.heap.size W1 w'->w'.cell? ⟨wr.heap.size,0,none⟩=some (.string nm) from fun w' h=>(BX.out.on h).cell 0)
    have H1:=Lib.hid (show ∀ w',Below W1.heap.size W1 w'->w'.cell? ⟨wr.heap.size,1,none⟩=some (.int .i64 of) from fun w' h=>(BX.out.on h).cell 1)
    have HW1:=Lib.hid hW1
    clear hW1
    have hS:Below W1.heap.size W1 W1.drew:=(Below.refl _ _).drew
    refine hR (fun w'=>Below W1.heap.size W1 w') [ff 0,ff 1,tt 2,ff 3,ff 4,ff 5,ff 6,ff 7,ff 8,ff 9,ff 10,ff 11,ff 12,ff 13,ff 14,ff 15,ff 16,ff 17,ff 18,ff 19,ff 20,ff 21,ff 22,ff 23,ff 24,ff 25,ff 26,ff 27,ff 28] ?_
    refine hP hS ?_
    refine hP1 hS H0.out ?_
    refine hE fun K hK=>?_
    go_simp
    with_reducible refine (isn_any nm _ hsz).mono ?_
    rintro e w5 ⟨rfl,hb5⟩
    rw [Hq.out]
    have HS:=Lib.hid (bon hS hb5)
    clear hb5
    refine held_go hK (by exact HS.out) fun hS=>?_
    clear hK K
    try simp only [zp]
    clear HS
    iterate 3
     refine hP hS ?_
    refine hP1 hS H1.out ?_
    iterate 4
     refine hP hS ?_
    refine hP1 hS H1.out ?_
    iterate 6
     refine hP hS ?_
    refine hO hS ?_
    refine hO hS ?_
    refine hO hS ?_
    refine hO hS ?_
    refine hO hS ?_
    refine hO hS ?_
    refine hO hS ?_
    refine hO hS ?_
    refine hO hS ?_
    refine hP hS ?_
    refine hP hS ?_
    refine held_end ?_
    have HL:=Lib.hid (bon HL.out hS)
    clear hS
    go_wp2
    go_roundw
    case rel=>exact ⟨k+1,by omega,by go_num,HN,HL⟩
    case measure=>simp [intOf];omega
  have d1:decide ((k:Int)<(n:Int))=false:=by simp;omega
  have HN:=Lib.hid (show allPrev markF none l=true by rw [HR.out,allPrev_end markF (by omega)])
  by_cases h16:n<=16
  ·have e1:decide ((n:Int)<=16)=true:=by simp;omega
   have HM:=Lib.hid (show marksB l=true by unfold marksB;rw [HN.out,decide_eq_true (show l.length<=16 by omega)];rfl)
   go_wp2
   go_ret
   exact ⟨by rw [HM.out];rfl,HB.out⟩
  have e1:decide ((n:Int)<=16)=false:=by simp;omega
  have HM:=Lib.hid (show marksB l=false by unfold marksB;rw [decide_eq_false (show ¬l.length<=16 by omega),Bool.and_false])
  go_wp2
  go_ret
  exact ⟨by rw [HM.out];rfl,HB.out⟩
end Go.Proofs.YtjpjalmilfgckaaGreatDoor
namespace Go.Proofs.YtjpjalmilfgckaaGreatDoor
open Go.RowKit
set_option maxHeartbeats 1000000 in
theorem zorder_any (A:Option Addr) (n c j k:Nat) (l:List It) (x y:It) (w:World) (hi:ItemsAt w w.heap.size A n l) (hj:j<n) (hk:k<n) (hx:l[j]? = some x) (hy:l[k]? = some y) :
  Calls Tryz.prog 232 #[.slice A n c,.int .i64 (j:Int),.int .i64 (k:Int)] w fun e w'=>e=.returned (.int .i64 (cmpR x.1 y.1))/\Below w.heap.size w w':=by
 obtain ⟨ad,A',c',it,hA,hbk,hit,a0,a1,r1,rc1,rc2⟩:=hi.at_ hj
 obtain ⟨ad',A'',c'',it',hA',hbk',hit',b0,b1,r2,-,-⟩:=hi.at_ hk
 subst hA
 injection hA' with hA'
 subst hA'
 obtain rfl:x=it:=Option.some.inj (hx.symm.trans hit)
 obtain rfl:y=it':=Option.some.inj (hy.symm.trans hit')
 have LA:=Lib.hid (show ∀ w',Below w.heap.size w w'->w'.cell? (ad.add (j*2))=some (.slice A' x.1.length c') from fun w' h=>(h.cell (World.block_lt_of_cell? _ _ a0)).trans a0)
 have LB:=Lib.hid (show ∀ w',Below w.heap.size w w'->w'.cell? (ad.add (k*2))=some (.slice A'' y.1.length c'') from fun w' h=>(h.cell (World.block_lt_of_cell? _ _ b0)).trans b0)
 have R1:=Lib.hid r1
 have R2:=Lib.hid r2
 have Hm:=Lib.hid (Nat.le_trans rc1 rc2)
 have hji:(j:Int)<(n:Int):=by omega
 have hki:(k:Int)<(n:Int):=by omega
 clear hi hx hy hit hit' hbk hbk' a0 a1 b0 b1 r1 r2 rc1 rc2
 obtain ⟨x,vx⟩:=x
 obtain ⟨y,vy⟩:=y
 simp only at LA LB R1 R2 Hm ⊢
 generalize x.length=xl at *
 generalize y.length=yl at *
 go_enter Tryz.func232,Tryz.ntmps232
 go_wp2
 have hS:Below w.heap.size w w.drew:=(Below.refl _ _).drew
 refine hR (fun w'=>Below w.heap.size w w') [ff 0,ff 1,ff 2,ff 3,ff 4,ff 5,ff 6,ff 7,ff 8,ff 9,tt 10,ff 11] ?_
 iterate 4
  refine hP hS ?_
 refine hP1 hS LA.out ?_
 iterate 4
  refine hP hS ?_
 refine hP1 hS LB.out ?_
 refine hE fun K hK=>?_
 go_simp
 with_reducible refine (rwcmp_any A' A'' xl c' yl c'' x y _ (R1.out.on hS) (R2.out.on hS) Hm.out).mono ?_
 rintro e w5 ⟨rfl,hb5⟩
 refine held_go hK (by exact bon hS hb5) fun hS=>?_
 clear hK K
 try simp only [zp]
 clear hb5
 refine hP hS ?_
 refine held_end ?_
 go_wp2
 go_ret
 exact ⟨rfl,hS⟩
def zsE (l:List It):Int:=if zsB l then 0 else 2
theorem zsE_yes {l:List It} (h:zsB l=true):zsE l=0:=by unfold zsE;rw [h];rfl
theorem zsE_no {l:List It} (h:zsB l=false):zsE l=2:=by unfold zsE;rw [h];rfl
theorem zsF_zero (p:Option It) {it:It} (h:it.2=0):zsF p it=false:=by unfold zsF;rw [decide_eq_false (by simp [h])];rfl
theorem zsF_none {it:It} (h:it.2≠0):zsF none it=true:=by unfold zsF;rw [decide_eq_true h];rfl
theorem zsF_some {p it:It} (h:it.2≠0):zsF (some p) it=decide (cmpR p.1 it.1<0):=by unfold zsF;rw [decide_eq_true h];rfl
set_option maxHeartbeats 2000000 in
theorem zcheck_any (A:Option Addr) (n c:Nat) (l:List It) (w:World) (hi:ItemsAt w w.heap.size A n l) (hn:n<=maxLen) :
  Calls Tryz.prog 180 #[.slice A n c] w fun e w'=>e=.returned (.int .i64 (zsE l))/\Below w.heap.size w w':=by
 have Hi:=Lib.hid hi
 have hl:=hi.len
 have hn63:n<=9223372036854775807:=by simp only [maxLen] at hn;omega
 clear hi hn
 go_enter Tryz.func180,Tryz.ntmps180
 go_wp2
 go_loopw [7] (fun kv wr=>∃ k:Nat,k<=n/\kv=.int .i64 (k:Int)/\Hid (zsB l=allPrev zsF (prevL l k) (l.drop k))/\Hid (Below w.heap.size w wr)) (fun kv _=>n-(intOf kv).toNat)
 case atStart=>exact ⟨0,Nat.zero_le _,rfl,Lib.hid rfl,Lib.hid (Below.refl _ _)⟩
 case round=>
  obtain ⟨k,hk,rfl,HR,HB⟩:=hrel
  by_cases hlt:k<n
  ·have d1:decide ((k:Int)<(n:Int))=true:=by simp;omega
   obtain ⟨ad,A',c',it,rfl,hbk,hit,a0,a1,r1,rc1,rc2⟩:=(Hi.out.below HB.out).at_ hlt
   have HS:=Lib.hid (show zsB l=(zsF (prevL l k) it&&allPrev zsF (prevL l (k+1)) (l.drop (k+1))) by rw [HR.out,allPrev_step zsF hit])
   have Hit:=Lib.hid hit
   have HL:=Lib.hid (bal HB.out (.cells #[.slice A' it.1.length c',.int .i64 it.2] 26))
   clear hbk hit r1 rc1 rc2 HR
   by_cases hz:it.2=0
   ·have HN:=Lib.hid (show zsB l=false by rw [HS.out,zsF_zero _ hz];rfl)
    have e1:(it.2==0)=true:=by simpa using hz
    clear hz
    generalize it.2=vt at *
    generalize it.1.length=rl at *
    go_wp2
    go_ret
    exact ⟨by rw [zsE_no HN.out];rfl,HL.out⟩
   have e1:(it.2==0)=false:=by simpa using hz
   by_cases hk0:k=0
   ·have HN:=Lib.hid (show zsB l=allPrev zsF (prevL l (k+1)) (l.drop (k+1)) by rw [HS.out,show prevL l k=none by rw [hk0];rfl,zsF_none hz];rfl)
    have e2:decide (0<(k:Int))=false:=by simp;omega
    have hk1:¬0<k:=by omega
    clear hz hk0
    generalize it.2=vt at *
    generalize it.1.length=rl at *
    go_wp2
    go_roundw
    case rel=>exact ⟨k+1,by omega,by go_num,HN,HL⟩
    case measure=>simp [intOf];omega
   obtain ⟨j,hj⟩:∃ j,k=j+1:=⟨k-1,by omega⟩
   obtain ⟨itp,hitp⟩:∃ itp,l[j]? = some itp:=⟨_,List.getElem?_eq_getElem (by omega)⟩
   obtain ⟨q,hq⟩:∃ q,cmpR itp.1 it.1=q:=⟨_,rfl⟩
   have HN:=Lib.hid (show zsB l=(decide (q<0)&&allPrev zsF (prevL l (k+1)) (l.drop (k+1))) by
    rw [HS.out,show prevL l k=some itp by rw [hj];exact hitp,zsF_some hz,hq])
   have HK:=Lib.hid (zorder_any (some ad) n c j k l itp it (wr.alloc (.cells #[.slice A' it.1.length c',.int .i64 it.2] 26)) (Hi.out.on HL.out) (by omega) hlt hitp Hit.out)
   rw [hq] at HK
   have hj2:(k:Int)-1=(j:Int):=by omega
   have e2:decide (0<(k:Int))=true:=by simp;omega
   have hk1:0<k:=by omega
   clear hz hitp hq HS Hit hj hk0
   generalize it.2=vt at *
   generalize it.1.length=rl at *
   go_wp2_with fail
   with_reducible refine HK.out.mono ?_
   rintro e w5 ⟨rfl,hb5⟩
   have HL:=Lib.hid (bon HL.out hb5)
   clear hb5 HK
   by_cases hq0:q<0
   ·have e3:decide (0<=q)=false:=by simp;omega
    have hq1:¬0<=q:=by omega
    have HN:=Lib.hid (show zsB l=allPrev zsF (prevL l (k+1)) (l.drop (k+1)) by rw [HN.out,decide_eq_true hq0];rfl)
    go_wp2
    go_roundw
    case rel=>exact ⟨k+1,by omega,by go_num,HN,HL⟩
    case measure=>simp [intOf];omega
   have e3:decide (0<=q)=true:=by simp;omega
   have hq1:0<=q:=by omega
   have HN:=Lib.hid (show zsB l=false by rw [HN.out,decide_eq_false hq0];rfl)
   go_wp2
   go_ret
   exact ⟨by rw [zsE_no HN.out];rfl,HL.out⟩
  have d1:decide ((k:Int)<(n:Int))=false:=by simp;omega
  have HN:=Lib.hid (show zsB l=true by rw [HR.out,allPrev_end zsF (by omega)])
  go_wp2
  go_ret
  exact ⟨by rw [zsE_yes HN.out];rfl,HB.out⟩
end Go.Proofs.YtjpjalmilfgckaaGreatDoor
namespace Go.Proofs.YtjpjalmilfgckaaGreatDoor
open Go.RowKit
theorem oddF_w {cs:List Co} {r:List Cl} {v:Int} (h:v≠1):oddF cs (r,v)=false:=by unfold oddF;rw [decide_eq_false h];rfl
theorem oddF_r {cs:List Co} {r:List Cl}:oddF cs (r,1)=(rowE cs r==0):=by unfold oddF;simp
theorem irow1_any (g:Nat) (A:Option Addr) (n c:Nat) (cs:List Co) (B:Option Addr) (m d:Nat) (r:List Cl) (v:Int) (w:World) (hg:w.cell? ⟨g,0,none⟩=some (.slice A n c)) (hgl:g<w.heap.size) (hr:Reads w w.heap.size 7 A n (cos cs)) (hr2:Reads w w.heap.size 3 B m (cls r)) (hm:m<=maxLen) (hT:Tabs w) :
  Calls Tryz.prog 178 #[.agg #[.slice B m d,.int .i64 v],.pointer (some ⟨g,0,none⟩)] w fun e w'=>e=.returned (.bool (!oddF cs (r,v)))/\Below w.heap.size w w':=by
 obtain ⟨W,hW⟩:∃ W,W=w.alloc (.cells #[.slice B m d,.int .i64 v] 26):=⟨_,rfl⟩
 have hb1:Below w.heap.size w W:=by rw [hW];exact bal (Below.refl _ _) _
 have HX:=Lib.hid (show Blk W w.heap.size 26 #[.slice B m d,.int .i64 v] by rw [hW];exact Blk.new w _ _)
 have hg:=(hb1.cell (p:=⟨g,0,none⟩) hgl).trans hg
 have h0:=HX.out.cell 0
 have h1:=HX.out.cell 1
 have HA:=Lib.hid (prow_any A n c cs B m d r W (hr.on hb1) (hr2.on hb1) hm (hT.on hb1))
 have Hb1:=Lib.hid hb1
 have HW:=Lib.hid hW
 clear hr hr2 hT hgl hb1
 by_cases h:v=1
 ·subst h
  rw [oddF_r]
  go_enter Tryz.func178,Tryz.ntmps178
  rw [hW] at hg h0 h1
  clear hW
  go_wp2_with fail
  rw [<-HW.out]
  with_reducible refine HA.out.mono ?_
  rintro e w5 ⟨rfl,hb5⟩
  have HB:=Lib.hid (bon Hb1.out hb5)
  clear hb5 hg h0 h1 HA
  go_wp2
  go_ret
  exact ⟨rfl,HB.out⟩
 rw [oddF_w h]
 have e1:(v != 1)=true:=by simpa using h
 clear h
 go_enter Tryz.func178,Tryz.ntmps178
 rw [hW] at hg h0 h1
 clear hW
 go_wp2
 go_ret
 rw [<-HW.out]
 exact ⟨rfl,Hb1.out⟩
set_option maxHeartbeats 1000000 in
theorem irowidx_any (g:Nat) (A:Option Addr) (n c:Nat) (cs:List Co) (B:Option Addr) (m d:Nat) (l:List It) (w:World) (hg:w.cell? ⟨g,0,none⟩=some (.slice A n c)) (hgl:g<w.heap.size) (hr:Reads w w.heap.size 7 A n (cos cs)) (hi:ItemsAt w w.heap.size B m l) (hm:m<=maxLen) (hT:Tabs w) :
  Calls Tryz.prog 231 #[.slice B m d,.func (.func 178) #[] #[.pointer (some ⟨g,0,none⟩)]] w fun e w'=>(∃ r:Int,e=.returned (.int .i64 r)/\(!decide (0<=r))=l.all (oddF cs))/\Below w.heap.size w w':=by
 have Hr:=Lib.hid hr
 have Hi:=Lib.hid hi
 have HT:=Lib.hid hT
 have HG:=Lib.hid hg
 have Hl:=Lib.hid hi.len
 have hn63:m<=9223372036854775807:=by simp only [maxLen] at hm;omega
 have hin:=callFunc_in Tryz.func178 (by kernel_rfl) (by kernel_rfl)
 clear hr hi hT hg hm
 go_enter Tryz.func231,Tryz.ntmps231
 go_wp2
 go_loopw [8] (fun i wr=>∃ k:Nat,k<=m/\i=.int .i64 (k:Int)/\Hid (∀ j c,j<k->l[j]? = some c->oddF cs c=true)/\Hid (Below w.heap.size w wr)) (fun i _=>m-(intOf i).toNat)
 case atStart=>exact ⟨0,Nat.zero_le _,rfl,Lib.hid (fun j c h=>by omega),Lib.hid (Below.refl _ _)⟩
 case round=>
  obtain ⟨k,hk,rfl,HN,HB⟩:=hrel
  by_cases hlt:k<m
  ·obtain ⟨ad,A',c',it,rfl,hbk,hit,a0,a1,r1,rc1,rc2⟩:=(Hi.out.on HB.out).at_ hlt
   have Hit:=Lib.hid hit
   have R1:=Lib.hid r1
   have Hm:=Lib.hid (Nat.le_trans rc1 rc2)
   have hki:(k:Int)<(m:Int):=by omega
   clear hit hbk r1 rc1 rc2
   obtain ⟨r,v⟩:=it
   simp only at a0 a1 R1 Hm
   generalize r.length=rl at *
   go_wp2_with fail
   with_reducible refine (irow1_any g A n c cs A' rl c' r v _ ((HB.out.cell (p:=⟨g,0,none⟩) hgl).trans HG.out) (Nat.lt_of_lt_of_le hgl HB.out.size) (Hr.out.on HB.out) R1.out Hm.out (HT.out.on HB.out)).mono ?_
   rintro e w1 ⟨rfl,hb1⟩
   have HB2:=Lib.hid (bon HB.out hb1)
   clear hb1 a0 a1
   cases hm:oddF cs (r,v) with
   | true=>
    have HN2:=Lib.hid (show ∀ j c,j<k+1->l[j]? = some c->oddF cs c=true from fun j c hj hc=>by
     rcases Nat.lt_or_ge j k with h | h
     ·exact HN.out j c h hc
     obtain rfl:j=k:=by omega
     rw [Hit.out] at hc
     cases hc
     exact hm)
    clear hm
    go_wp2
    go_roundw
    case rel=>exact ⟨k+1,by omega,by go_num,HN2,HB2⟩
    case measure=>simp [intOf];omega
   | false=>
    have HE:=Lib.hid (show (!decide (0<=(k:Int)))=l.all (oddF cs) by
     have h1:l.all (oddF cs)=false:=by
      rw [List.all_eq_false]
      exact ⟨_,List.mem_of_getElem? Hit.out,by simp [hm]⟩
     rw [h1]
     simp)
    clear hm
    go_wp2
    go_ret
    exact ⟨⟨_,rfl,HE.out⟩,HB2.out⟩
  obtain rfl:k=m:=by omega
  have HE:=Lib.hid (show (!decide (0<=(-1:Int)))=l.all (oddF cs) by
   have h1:l.all (oddF cs)=true:=by
    rw [List.all_eq_true]
    intro c hc
    obtain ⟨j,hj⟩:=List.getElem?_of_mem hc
    exact HN.out j c (by have:=(List.getElem?_eq_some_iff.1 hj).1;rw [Hl.out] at this;exact this) hj
   rw [h1]
   rfl)
  go_wp2
  go_ret
  exact ⟨⟨_,rfl,HE.out⟩,HB.out⟩
theorem irowin_any (g:Nat) (A:Option Addr) (n c:Nat) (cs:List Co) (B:Option Addr) (m d:Nat) (l:List It) (w:World) (hg:w.cell? ⟨g,0,none⟩=some (.slice A n c)) (hgl:g<w.heap.size) (hr:Reads w w.heap.size 7 A n (cos cs)) (hi:ItemsAt w w.heap.size B m l) (hm:m<=maxLen) (hT:Tabs w) :
  Calls Tryz.prog 179 #[.slice B m d,.func (.func 178) #[] #[.pointer (some ⟨g,0,none⟩)]] w fun e w'=>e=.returned (.bool (!l.all (oddF cs)))/\Below w.heap.size w w':=by
 have HA:=Lib.hid (irowidx_any g A n c cs B m d l w hg hgl hr hi hm hT)
 clear hg hgl hr hi hm hT
 go_enter Tryz.func179,Tryz.ntmps179
 go_wp2_with fail
 with_reducible refine HA.out.mono ?_
 rintro e w1 ⟨⟨r,rfl,he⟩,hb1⟩
 have HB:=Lib.hid hb1
 have HE:=Lib.hid he
 clear hb1 he HA
 go_wp2
 go_ret
 exact ⟨by rw [<-HE.out,Bool.not_not];rfl,HB.out⟩
theorem irows_any (A:Option Addr) (n c:Nat) (cs:List Co) (B:Option Addr) (m d:Nat) (l:List It) (w:World) (hr:Reads w w.heap.size 7 A n (cos cs)) (hi:ItemsAt w w.heap.size B m l) (hm:m<=maxLen) (hT:Tabs w) :
  Calls Tryz.prog 126 #[.slice A n c,.slice B m d] w fun e w'=>e=.returned (.bool (rowsB cs l))/\Below w.heap.size w w':=by
 have hl:=hi.len
 have Hi:=Lib.hid hi
 have HT:=Lib.hid hT
 have Hr:=Lib.hid hr
 have Hm:=Lib.hid hm
 have HB0:=Lib.hid (bal (Below.refl w.heap.size w) (.cells #[.slice A n c] 32))
 have HX:=Lib.hid (Blk.new w 32 #[.slice A n c])
 clear hi hT hr hm
 by_cases h16:m<=4096
 ·have e1:decide ((m:Int)<=4096)=true:=by simp;omega
  have h16i:(m:Int)<=4096:=by omega
  have HE:=Lib.hid (show rowsB cs l=(l.all (oddF cs)&&zsB l) by unfold rowsB;rw [decide_eq_true (show l.length<=4096 by omega)];rfl)
  go_enter Tryz.func126,Tryz.ntmps126
  go_wp2_with fail
  generalize hW:w.alloc (.cells #[.slice A n c] 32)=W at *
  with_reducible refine (irowin_any w.heap.size A n c cs B m d l _ (HX.out.cell 0) HX.out.lt (Hr.out.on HB0.out) (Hi.out.on HB0.out) Hm.out (HT.out.on HB0.out)).mono ?_
  rintro e w1 ⟨rfl,hb1⟩
  have HB:=Lib.hid (bon HB0.out hb1)
  clear hb1
  cases hq:l.all (oddF cs) with
  | false=>
   have HE:=Lib.hid (show rowsB cs l=false by rw [HE.out,hq];rfl)
   clear hq
   go_wp2
   go_ret
   exact ⟨by rw [HE.out];rfl,HB.out⟩
  | true=>
   have HE:=Lib.hid (show rowsB cs l=zsB l by rw [HE.out,hq];rfl)
   clear hq
   go_wp2_with fail
   with_reducible refine (zcheck_any B m d l _ (Hi.out.on HB.out) Hm.out).mono ?_
   rintro e w2 ⟨rfl,hb2⟩
   have HB:=Lib.hid (bon HB.out hb2)
   clear hb2
   cases hz:zsB l with
   | true=>
    rw [zsE_yes hz]
    have HE:=Lib.hid (show rowsB cs l=true by rw [HE.out,hz])
    clear hz
    go_wp2
    go_ret
    exact ⟨by rw [HE.out];rfl,HB.out⟩
   | false=>
    rw [zsE_no hz]
    have HE:=Lib.hid (show rowsB cs l=false by rw [HE.out,hz])
    clear hz
    go_wp2
    go_ret
    exact ⟨by rw [HE.out];rfl,HB.out⟩
 have e1:decide ((m:Int)<=4096)=false:=by simp;omega
 have HE:=Lib.hid (show rowsB cs l=false by unfold rowsB;rw [decide_eq_false (show ¬l.length<=4096 by omega)];rfl)
 go_enter Tryz.func126,Tryz.ntmps126
 go_wp2
 go_ret
 exact ⟨by rw [HE.out];rfl,HB0.out⟩
end Go.Proofs.YtjpjalmilfgckaaGreatDoor
namespace Go.Proofs.YtjpjalmilfgckaaGreatDoor
open Go.RowKit
theorem riseF_no {lo hi x:Int} (p:Option Int) (h:x<lo\/hi<x):riseF lo hi p x=false:=by
 unfold riseF
 rw [decide_eq_false (by omega)]
 rfl
theorem riseF_none {lo hi x:Int} (h:¬x<lo/\¬hi<x):riseF lo hi none x=true:=by
 unfold riseF
 rw [decide_eq_true (by omega)]
 rfl
theorem riseF_some {lo hi x p:Int} (h:¬x<lo/\¬hi<x):riseF lo hi (some p) x=decide (p<x):=by
 unfold riseF
 rw [decide_eq_true (by omega)]
 simp
set_option maxHeartbeats 1000000 in
theorem rises_any (A:Option Addr) (n c:Nat) (l:List Int) (lo hi:Int) (w:World) (hr:Reads w w.heap.size 1 A n (ins l)) (hn:n<=maxLen) :
  Calls Tryz.prog 131 #[.slice A n c,.int .i64 lo,.int .i64 hi] w fun e w'=>e=.returned (.bool (risesB lo hi l))/\w=w':=by
 have Hr:=Lib.hid hr
 have hl:=ins_len hr
 have hn63:n<=9223372036854775807:=by simp only [maxLen] at hn;omega
 clear hr hn
 go_enter Tryz.func131,Tryz.ntmps131
 go_wp2
 go_loopw [11] (fun kv wr=>∃ k:Nat,k<=n/\kv=.int .i64 (k:Int)/\wr=w/\Hid (risesB lo hi l=allPrev (riseF lo hi) (prevL l k) (l.drop k))) (fun kv _=>n-(intOf kv).toNat)
 case atStart=>exact ⟨0,Nat.zero_le _,rfl,rfl,Lib.hid rfl⟩
 case round=>
  obtain ⟨k,hk,rfl,rfl,HR⟩:=hrel
  by_cases hlt:k<n
  ·have d1:decide ((k:Int)<(n:Int))=true:=by simp;omega
   have hkn:(k:Int)<(n:Int):=by omega
   obtain ⟨ad,x,hA,hbk,hx,c0⟩:=ins_at Hr.out hlt
   subst hA
   have HS:=Lib.hid (show risesB lo hi l=(riseF lo hi (prevL l k) x&&allPrev (riseF lo hi) (prevL l (k+1)) (l.drop (k+1))) by rw [HR.out,allPrev_step _ hx])
   clear HR hbk
   by_cases h1:x<lo
   ·have e1:decide (x<lo)=true:=by simpa using h1
    have HN:=Lib.hid (show risesB lo hi l=false by rw [HS.out,riseF_no _ (.inl h1)];rfl)
    clear hx
    go_wp2
    go_ret
    exact ⟨by rw [HN.out];rfl,rfl⟩
   have e1:decide (x<lo)=false:=by simpa using h1
   by_cases h2:hi<x
   ·have e2:decide (hi<x)=true:=by simpa using h2
    have HN:=Lib.hid (show risesB lo hi l=false by rw [HS.out,riseF_no _ (.inr h2)];rfl)
    clear hx
    go_wp2
    go_ret
    exact ⟨by rw [HN.out];rfl,rfl⟩
   have e2:decide (hi<x)=false:=by simpa using h2
   by_cases hk0:k=0
   ·have e3:decide (0<(k:Int))=false:=by simp;omega
    have hk1:¬0<k:=by omega
    have HN:=Lib.hid (show risesB lo hi l=allPrev (riseF lo hi) (prevL l (k+1)) (l.drop (k+1)) by rw [HS.out,show prevL l k=none by rw [hk0];rfl,riseF_none ⟨h1,h2⟩];rfl)
    clear hx hk0
    go_wp2
    go_roundw
    case rel=>exact ⟨k+1,by omega,by go_num,by trivial,HN⟩
    case measure=>simp [intOf];omega
   obtain ⟨j,hj⟩:∃ j,k=j+1:=⟨k-1,by omega⟩
   obtain ⟨ad',p,hA',-,hp,p0⟩:=ins_at Hr.out (k:=j) (by omega)
   injection hA' with hA'
   subst hA'
   have HN:=Lib.hid (show risesB lo hi l=(decide (p<x)&&allPrev (riseF lo hi) (prevL l (k+1)) (l.drop (k+1))) by rw [HS.out,show prevL l k=some p by rw [hj];exact hp,riseF_some ⟨h1,h2⟩])
   have hj2:(k:Int)-1=(j:Int):=by omega
   have hjn:(j:Int)<(n:Int):=by omega
   have e3:decide (0<(k:Int))=true:=by simp;omega
   have hk1:0<k:=by omega
   clear hx hp hj hk0 HS
   by_cases h3:p<x
   ·have e4:decide (x<=p)=false:=by simp;omega
    have h4:¬x<=p:=by omega
    have HN:=Lib.hid (show risesB lo hi l=allPrev (riseF lo hi) (prevL l (k+1)) (l.drop (k+1)) by rw [HN.out,decide_eq_true h3];rfl)
    go_wp2
    go_roundw
    case rel=>exact ⟨k+1,by omega,by go_num,by trivial,HN⟩
    case measure=>simp [intOf];omega
   have e4:decide (x<=p)=true:=by simp;omega
   have h4:x<=p:=by omega
   have HN:=Lib.hid (show risesB lo hi l=false by rw [HN.out,decide_eq_false h3];rfl)
   go_wp2
   go_ret
   exact ⟨by rw [HN.out];rfl,rfl⟩
  have d1:decide ((k:Int)<(n:Int))=false:=by simp;omega
  have HN:=Lib.hid (show risesB lo hi l=true by rw [HR.out,allPrev_end _ (by omega)])
  go_wp2
  go_ret
  exact ⟨by rw [HN.out];rfl,rfl⟩
end Go.Proofs.YtjpjalmilfgckaaGreatDoor
namespace Go.Proofs.YtjpjalmilfgckaaGreatDoor
open Go.RowKit Go.Deep Go.ChangeShapes Go.WideShapes Go.Shelf Go.Lib
theorem struct_fields {H:Type} {enc:TypeId×Value->H} {P:Program} {w:World} {held:Bool} {sp:Nat->Bool} {base:Nat} {ts:TypeId} {fs:Array Field} {fuel:Nat} {cs:List Value} {x:DataW H×List MemPlace} (hs:P.underlying ts=some (.struct fs))
  (h:DataW.trod enc P w base sp held fuel ts cs=some x):∃ n,cs.length=P.cellsOf ts/\∀ (i:Nat) (f:Field),fs[i]? = some f->∃ y,DataW.trod enc P w base sp held n f.type ((cs.drop f.offset).take (P.cellsOf f.type))=some y:=by
 obtain ⟨xs,n,_,rfl,hcl,hxl,hf⟩:=DataW.trod_struct hs h
 refine ⟨n,hcl,fun i f hi=>?_⟩
 have g:=hf i f hi
 have hlt:i<fs.size:=(Array.getElem?_eq_some_iff.1 hi).1
 rw [List.getElem?_eq_getElem (by omega)] at g
 exact ⟨_,g⟩
theorem cell_of {H:Type} {enc:TypeId×Value->H} {w:World} {held:Bool} {n:Nat} {cs:List Value} {y:DataW H×List MemPlace} (hy:DataW.trod enc Tryz.prog w 0 (fun _=>true) held n 23 cs=some y) :
  ∃ c:Cl,cs=[.bool c.1,.int .i64 c.2.1,.string c.2.2] /\ -9223372036854775808<=c.2.1/\c.2.1<=9223372036854775807/\c.2.2.size<=maxLen:=by
 obtain ⟨m,hl,hc⟩:=struct_cells Tryz.underlying23 (by kernel_rfl) (by kernel_rfl) hy
 match cs,hl with
 | [v0,v1,v2],_=>
  obtain ⟨y0,g0⟩:=hc 0 _ _ rfl rfl
  obtain ⟨y1,g1⟩:=hc 1 _ _ rfl rfl
  obtain ⟨y2,g2⟩:=hc 2 _ _ rfl rfl
  obtain ⟨u,e0,-⟩:=DataW.trod_bool Tryz.underlying4 g0
  obtain ⟨k,e1,_,b1⟩:=DataW.trod_int Tryz.underlying2 g1
  obtain ⟨s,e2,_,b2⟩:=DataW.trod_string Tryz.underlying9 g2
  cases e0
  cases e1
  cases e2
  exact ⟨(u,k,s),rfl,(bounds_i64 b1).1,(bounds_i64 b1).2,b2⟩
theorem ktype_of {H:Type} {enc:TypeId×Value->H} {w:World} {held:Bool} {n:Nat} {cs:List Value} {y:DataW H×List MemPlace} (hy:DataW.trod enc Tryz.prog w 0 (fun _=>true) held n 43 cs=some y) :
  ∃ (k:Int) (nl:Bool),cs=[.int .i64 k,.bool nl] /\ -9223372036854775808<=k/\k<=9223372036854775807:=by
 obtain ⟨m,hl,hc⟩:=struct_cells Tryz.underlying43 (by kernel_rfl) (by kernel_rfl) hy
 match cs,hl with
 | [v0,v1],_=>
  obtain ⟨y0,g0⟩:=hc 0 _ _ rfl rfl
  obtain ⟨y1,g1⟩:=hc 1 _ _ rfl rfl
  obtain ⟨k,e0,_,b0⟩:=DataW.trod_int Tryz.underlying3 g0
  obtain ⟨u,e1,-⟩:=DataW.trod_bool Tryz.underlying4 g1
  cases e0
  cases e1
  exact ⟨k,u,rfl,(bounds_i64 b0).1,(bounds_i64 b0).2⟩
def CoOk (l:List Co):Prop:=∀ c∈l,-9223372036854775808<=c.2.2.1/\c.2.2.1<=9223372036854775807
theorem items_of {H:Type} {enc:TypeId×Value->H} {w:World} {held:Bool} {a:Option Addr} {len cap:Nat} {d:DataW H} {p:List MemPlace} (h:DataW.Trod enc Tryz.prog w 0 (fun _=>true) held 27 (.slice a len cap) d p) :
  ∃ l:List It,ItemsAt w w.heap.size a len l/\len<=cap/\cap<=maxLen/\ItOk l:=by
 haveI:Inhabited (Hd×It):=⟨(none,0,0),[],0⟩
 obtain ⟨xs,h1,h2,h3,h4⟩:=structs_of 2 (fun q:Hd×It=>itV q.1 q.2) (fun q=>(Reads w w.heap.size 3 q.1.1 q.1.2.1 (cls q.2.1)/\q.1.2.1<=q.1.2.2/\q.1.2.2<=maxLen)/\ClOk q.2.1 /\ -9223372036854775808<=q.2.2/\q.2.2<=9223372036854775807) (by decide) (fun _=>rfl)
  Tryz.underlying27 (by kernel_rfl) (fun n cs y hy=>by
   obtain ⟨m,hl,hc⟩:=struct_cells Tryz.underlying26 (by kernel_rfl) (by kernel_rfl) hy
   match cs,hl with
   | [v0,v1],_=>
    obtain ⟨y0,g0⟩:=hc 0 _ _ rfl rfl
    obtain ⟨y1,g1⟩:=hc 1 _ _ rfl rfl
    obtain ⟨k,e1,_,b1⟩:=DataW.trod_int Tryz.underlying2 g1
    rcases open_slice Tryz.underlying24 g0 with ⟨e0,-⟩ | ⟨ad,l,c,-,-,-,-,e0,-⟩
    ·cases e0
     cases e1
     obtain ⟨r,r1,r2,r3,r4⟩:=cells_of (a:=none) (len:=0) (cap:=0) ⟨m,g0⟩
     exact ⟨((none,0,0),r,k),rfl,⟨r1,r2,r3⟩,r4,(bounds_i64 b1).1,(bounds_i64 b1).2⟩
    cases e0
    cases e1
    obtain ⟨r,r1,r2,r3,r4⟩:=cells_of (a:=some ad) (len:=l) (cap:=c) ⟨m,g0⟩
    exact ⟨((some ad,l,c),r,k),rfl,⟨r1,r2,r3⟩,r4,(bounds_i64 b1).1,(bounds_i64 b1).2⟩) h
 have hz:(xs.map (·.1)).zip (xs.map (·.2))=xs:=by
  rw [List.zip_map']
  simp
 refine ⟨xs.map (·.2),⟨xs.map (·.1),?_,by simp,fun j g it hg hi=>?_⟩,h2,h3,fun it hit=>?_⟩
 ·unfold its
  rw [hz]
  exact h1
 ·rw [List.getElem?_map] at hg hi
  cases hx:xs[j]? with
  | none=>rw [hx] at hg;cases hg
  | some q=>
   rw [hx] at hg hi
   cases hg
   cases hi
   exact (h4 q (List.mem_of_getElem? hx)).1
 obtain ⟨q,hq,rfl⟩:=List.mem_map.1 hit
 exact (h4 q hq).2
end Go.Proofs.YtjpjalmilfgckaaGreatDoor
