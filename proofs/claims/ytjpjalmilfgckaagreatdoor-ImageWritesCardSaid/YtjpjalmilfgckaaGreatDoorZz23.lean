/- Part 23 of the walks. Conditions: each lemma states its own. -/
import Derived.Test.YtjpjalmilfgckaaGreatDoorZz22
set_option maxRecDepth 100000
set_option maxHeartbeats 4000000
set_option linter.unusedVariables false
set_option linter.unusedSimpArgs false
namespace Go.Proofs.YtjpjalmilfgckaaGreatDoor
section
open Go.RowKit
theorem qD {s:Sc} {st:St} (h:stB s st=false):Zi s st=2:=by unfold Zi;rw [h];rfl
theorem ajJ {s:Sc} {st:St} (h0:z8 s=true) (h1:1<=st.1/\st.1<=64/\0<=st.2.1) (h2:st.2.2.2.2.length<=1048576) (h3:yb st.2.2.1=true) (h4:st.2.2.2.1.length<=4096) (h5:st.2.2.2.1.all (Yj s.1)=true):Zi s st=zsE st.2.2.2.1:=by
 unfold Zi zsE stB qN;rw [h0,h3,h5,decide_eq_true h1,decide_eq_true h2,decide_eq_true h4];simp
theorem ait (a b:ByteArray):(a.toList==b.toList)=decide (a=b):=by
 rw [Lib.toList_data,Lib.toList_data];by_cases h:a=b
 ·subst h;simp
 rw [decide_eq_false h];exact beq_eq_false_iff_ne.2 (fun e=>h (ByteArray.ext (Array.ext' e)))
theorem ajd {a b:ByteArray} (h:Zn b a=true):Go.Op.bytesLess a.toList b.toList=false/\(a.toList==b.toList)=false:=by
 have k:=ae8 b a;rw [h] at k;rw [ZR,ait];cases h1:Zn a b<;>cases h2:decide (a=b)<;>simp_all
theorem ajU {a b:ByteArray} (h:Zn b a=false):Go.Op.bytesLess a.toList b.toList=true\/(Go.Op.bytesLess a.toList b.toList=false/\(a.toList==b.toList)=true):=by
 have k:=ae8 b a;rw [h] at k;rw [ZR,ait];cases h1:Zn a b<;>cases h2:decide (a=b)<;>simp_all
theorem ahe (CA:Option Addr) (cn cc:Nat) (KA:Option Addr) (kn kc:Nat) (s:Sc) (MA:Option Addr) (mn mc:Nat) (RA:Option Addr) (rn rc:Nat) (LA:Option Addr) (ln lc:Nat) (st:St) (w:World) (h:ChkAt w CA cn KA kn s MA mn RA rn LA ln st) (hok:ChkOk cn kn mn rn ln s st) :
  Calls Tryz.prog 60 #[.agg #[.slice CA cn cc,.slice KA kn kc],.agg #[.int .i64 st.1,.int .i64 st.2.1,.slice MA mn mc,.slice RA rn rc,.slice LA ln lc]] w fun e w'=>e=.returned (.int .i64 (Zi s st))/\Below w.heap.size w w':=by
 have Hok:=za hok;have Hlast:=za h.st.lastlen;have Hml:=za (qR h.st.marks);have Hrl:=za h.st.rows.len;obtain ⟨W,hW1⟩:∃ W,(w.alloc (.cells #[.slice CA cn cc,.slice KA kn kc] 48)).alloc (.cells #[.int .i64 st.1,.int .i64 st.2.1,.slice MA mn mc,.slice RA rn rc,.slice LA ln lc] 51)=W:=⟨_,rfl⟩;have H:=za (show ChkAt W CA cn KA kn s MA mn RA rn LA ln st by rw [<-hW1];exact (h.al _).al _);have HB:=za (show Below w.heap.size w W by rw [<-hW1];exact bal (bal (Below.refl _ _) _) _);have BS:=za (show Blk W w.heap.size 48 #[.slice CA cn cc,.slice KA kn kc] by rw [<-hW1];exact (Blk.new w _ _).alloc _);have BT:=za (show Blk W (w.heap.size+1) 51 #[.int .i64 st.1,.int .i64 st.2.1,.slice MA mn mc,.slice RA rn rc,.slice LA ln lc] by rw [<-hW1];exact Blk.new' _ _ _ _ (by simp));clear h hok;obtain ⟨v,hv⟩:∃ v,v=st.1:=⟨_,rfl⟩;obtain ⟨q,hq⟩:∃ q,q=st.2.1:=⟨_,rfl⟩;rw [<-hv,<-hq] at hW1 BT ⊢;have Hv:=za hv;have Hq0:=za hq;clear hv hq;have s0:=BS.out.cell 0;have s1:=BS.out.cell 1;have mn63:mn<=9223372036854775807:=by have:=Hok.out.mn;simp only [maxLen] at this;omega
 have rn63:rn<=9223372036854775807:=by have:=Hok.out.rn;simp only [maxLen] at this;omega
 go_enter Tryz.func60,Tryz.ntmps60;go_wp2_with fail
 try rw [hW1]
 clear hW1 s0 s1;with_reducible refine (acf CA cn cc KA kn kc s _ H.out.sch Hok.out.cn Hok.out.kn Hok.out.sch).mono ?_
 rintro e w1 ⟨rfl,hb1⟩;have H:=za (H.out.on hb1);have HB:=za (bon HB.out hb1);have BS:=za (BS.out.on hb1);have BT:=za (BT.out.on hb1);clear hb1;have s0:=BS.out.cell 0;have s1:=BS.out.cell 1;have t0:=BT.out.cell 0;have t1:=BT.out.cell 1;have t2:=BT.out.cell 2;have t3:=BT.out.cell 3;have t4:=BT.out.cell 4;have hv:=Hv.out;have hq:=Hq0.out;cases hs:z8 s with
 | false=>
  have HN:=za (qD (show stB s st=false by unfold stB;rw [hs];simp));rw [zL hs];clear hs hv hq;go_wp2;go_ret;exact ⟨by rw [HN.out];rfl,HB.out⟩
 | true=>
  rw [XQ hs];have Hs1:=za hs;clear hs;by_cases r1:v<1
  ·have e1:decide (v<1)=true:=(by simpa using r1);have HN:=za (qD (show stB s st=false by unfold stB;rw [decide_eq_false (show ¬(1<=st.1/\st.1<=64/\0<=st.2.1) by omega)];simp));clear hv hq;go_wp2;go_ret;exact ⟨by rw [HN.out];rfl,HB.out⟩
  have e1:decide (v<1)=false:=by simpa using r1
  by_cases r2:64<v
  ·have e2:decide (64<v)=true:=(by simpa using r2);have HN:=za (qD (show stB s st=false by unfold stB;rw [decide_eq_false (show ¬(1<=st.1/\st.1<=64/\0<=st.2.1) by omega)];simp));clear hv hq;go_wp2;go_ret;exact ⟨by rw [HN.out];rfl,HB.out⟩
  have e2:decide (64<v)=false:=by simpa using r2
  by_cases r3:q<0
  ·have e3:decide (q<0)=true:=(by simpa using r3);have HN:=za (qD (show stB s st=false by unfold stB;rw [decide_eq_false (show ¬(1<=st.1/\st.1<=64/\0<=st.2.1) by omega)];simp));clear hv hq;go_wp2;go_ret;exact ⟨by rw [HN.out];rfl,HB.out⟩
  have e3:decide (q<0)=false:=by simpa using r3
  have HV:=za (show 1<=st.1/\st.1<=64/\0<=st.2.1 by omega);clear hv hq;by_cases r5:16<mn
  ·have e5:decide (16<(mn:Int))=true:=(by simp;omega);have HN:=za (qD (show stB s st=false by unfold stB yb;rw [decide_eq_false (show ¬st.2.2.1.length<=16 by rw [Hml.out];omega)];simp));go_wp2;go_ret;exact ⟨by rw [HN.out];rfl,HB.out⟩
  have e5:decide (16<(mn:Int))=false:=by simp;omega
  by_cases r6:4096<rn
  ·have e6:decide (4096<(rn:Int))=true:=(by simp;omega);have HN:=za (qD (show stB s st=false by unfold stB qN;rw [decide_eq_false (show ¬st.2.2.2.1.length<=4096 by rw [Hrl.out];omega)];simp));go_wp2;go_ret;exact ⟨by rw [HN.out];rfl,HB.out⟩
  have e6:decide (4096<(rn:Int))=false:=by simp;omega
  by_cases r4:1048576<ln
  ·have e4:decide (1048576<(ln:Int))=true:=(by simp;omega);have HN:=za (qD (show stB s st=false by unfold stB;rw [decide_eq_false (show ¬st.2.2.2.2.length<=1048576 by rw [Hlast.out];omega)];simp));go_wp2;go_ret;exact ⟨by rw [HN.out];rfl,HB.out⟩
  have e4:decide (1048576<(ln:Int))=false:=by simp;omega
  have HL4:=za (show st.2.2.2.2.length<=1048576 by rw [Hlast.out];omega);go_wp2;clear s0 s1 t0 t1 t2 t3 t4 r1 r2 r3 r4 e1 e2 e3 e4 e5 e6;have HB0:=za HB.out;have S0:=za (show ak1 w1 ⟨w.heap.size,0,none⟩ (.slice CA cn cc) from fun w' h=>(BS.out.on h).cell 0);have T2:=za (show ak1 w1 ⟨w.heap.size+1,2,none⟩ (.slice MA mn mc) from fun w' h=>(BT.out.on h).cell 2);have T3:=za (show ak1 w1 ⟨w.heap.size+1,3,none⟩ (.slice RA rn rc) from fun w' h=>(BT.out.on h).cell 3);have HR0:=za (Below.refl w1.heap.size w1);clear HB BS BT;have HMk:=za (show ∀ w',Below w1.heap.size w1 w'->Reads w' w'.heap.size 2 MA mn (mks st.2.2.1) from fun w' h=>(H.out.on h).st.marks);generalize hms:st.2.2.1=ms at *;go_loopw [5] (fun kv wr=>∃ k:Nat,k<=mn/\kv=.int .i64 (k:Int)/\Hid (zn yi none ms=zn yi (zu ms k) (ms.drop k))/\Hid (Below w1.heap.size w1 wr)) (fun kv _=>mn-(intOf kv).toNat)
  case atStart=>exact ⟨0,Nat.zero_le _,rfl,za rfl,HR0⟩
  case round=>
   obtain ⟨k,hk,rfl,HR,HB⟩:=hrel;have t2:=T2.out _ HB.out;have t3:=T3.out _ HB.out;by_cases hlt:k<mn
   ·have d1:decide ((k:Int)<(mn:Int))=true:=(by simp;omega);have hki:(k:Int)<(mn:Int):=(by omega);obtain ⟨ad,m,rfl,hbk,hm,hat⟩:=Yk (HMk.out _ HB.out) hlt;have c0:=hat.c0;have c1:=hat.c1;have HS:=za (show zn yi none ms=(yi (zu ms k) m&&zn yi (zu ms (k+1)) (ms.drop (k+1))) by rw [HR.out,qI yi hm]);clear hat hm hbk HR;obtain ⟨nm,of⟩:=m;simp only at c0 c1;have HL:=za (bal HB.out (.cells #[.string nm,.int .i64 of] 90));have BX:=za (Blk.new wr 90 #[.string nm,.int .i64 of]);cases hq:qa nm with
    | false=>
     have HN:=za (qD (show stB s st=false by unfold stB yb;rw [hms,HS.out,aaf hq];simp));have Hq:=za hq;clear hq HS;go_wp2;generalize hW2:wr.alloc (.cells #[.string nm,.int .i64 of] 90)=W1;rw [hW2] at HL BX;have HW2:=za hW2;have H0:=za (show ak1 W1 ⟨wr.heap.size,0,none⟩ (.string nm) from fun w' h=>(BX.out.on h).cell 0);have H1:=za (show ak1 W1 ⟨wr.heap.size,1,none⟩ (.int .i64 of) from fun w' h=>(BX.out.on h).cell 1);have T2:=za (show ak1 W1 ⟨w.heap.size+1,2,none⟩ (.slice (some ad) mn mc) from fun w' h=>T2.out w' (bon HL.out h));clear hW2 t2;have hS:=ak2 W1;refine hB W1 [0,1,tt 2,3,4,5,6,7,8,9,10,11,12,13,14,15,16,17,18,19,20,21,22,23,24,25,26,27,28,29] ?_;refine hP hS ?_;refine hP1 hS H0.out ?_;refine hE fun K hK=>?_;go_simp;(with_reducible refine (Zf nm _).mono ?_);rintro e w5 ⟨rfl,rfl⟩;rw [Hq.out];refine hG hK hS fun hS=>?_;clear hK K;(iterate 2 refine hP hS ?_);(iterate 3 refine hO hS ?_);(iterate 2 refine hP hS ?_);(iterate 3 refine hO hS ?_);(iterate 2 refine hP hS ?_);(iterate 14 refine hO hS ?_);refine hP hS ?_;refine zc ?_;go_wp2;go_ret;exact ⟨by rw [HN.out];rfl,bon (bon HB0.out HL.out) hS⟩
    | true=>
     have Hq:=za hq;clear hq;by_cases r1:of<0
     ·have e1:decide (of<0)=true:=(by simpa using r1);have HN:=za (qD (show stB s st=false by unfold stB yb;rw [hms,HS.out,Vq (by simp only;omega)];simp));go_wp2;generalize hW2:wr.alloc (.cells #[.string nm,.int .i64 of] 90)=W1;rw [hW2] at HL BX;have HW2:=za hW2;have H0:=za (show ak1 W1 ⟨wr.heap.size,0,none⟩ (.string nm) from fun w' h=>(BX.out.on h).cell 0);have H1:=za (show ak1 W1 ⟨wr.heap.size,1,none⟩ (.int .i64 of) from fun w' h=>(BX.out.on h).cell 1);have T2:=za (show ak1 W1 ⟨w.heap.size+1,2,none⟩ (.slice (some ad) mn mc) from fun w' h=>T2.out w' (bon HL.out h));clear hW2 t2;have hS:=ak2 W1;refine hB W1 [0,1,tt 2,3,4,5,6,7,8,9,10,11,12,13,14,15,16,17,18,19,20,21,22,23,24,25,26,27,28,29] ?_;refine hP hS ?_;refine hP1 hS H0.out ?_;refine hE fun K hK=>?_;go_simp;(with_reducible refine (Zf nm _).mono ?_);rintro e w5 ⟨rfl,rfl⟩;rw [Hq.out];refine hG hK hS fun hS=>?_;clear hK K;(iterate 3 refine hP hS ?_);refine hP1 hS H1.out ?_;(iterate 3 refine hP hS ?_);(iterate 3 refine hO hS ?_);(iterate 2 refine hP hS ?_);(iterate 14 refine hO hS ?_);refine hP hS ?_;refine zc ?_;go_wp2;go_ret;exact ⟨by rw [HN.out];rfl,bon (bon HB0.out HL.out) hS⟩
     have e1:decide (of<0)=false:=(by simpa using r1);by_cases r2:9007199254740991<of
     ·have e2:decide (9007199254740991<of)=true:=(by simpa using r2);have HN:=za (qD (show stB s st=false by unfold stB yb;rw [hms,HS.out,Vq (by simp only;omega)];simp));go_wp2;generalize hW2:wr.alloc (.cells #[.string nm,.int .i64 of] 90)=W1;rw [hW2] at HL BX;have HW2:=za hW2;have H0:=za (show ak1 W1 ⟨wr.heap.size,0,none⟩ (.string nm) from fun w' h=>(BX.out.on h).cell 0);have H1:=za (show ak1 W1 ⟨wr.heap.size,1,none⟩ (.int .i64 of) from fun w' h=>(BX.out.on h).cell 1);have T2:=za (show ak1 W1 ⟨w.heap.size+1,2,none⟩ (.slice (some ad) mn mc) from fun w' h=>T2.out w' (bon HL.out h));clear hW2 t2;have hS:=ak2 W1;refine hB W1 [0,1,tt 2,3,4,5,6,7,8,9,10,11,12,13,14,15,16,17,18,19,20,21,22,23,24,25,26,27,28,29] ?_;refine hP hS ?_;refine hP1 hS H0.out ?_;refine hE fun K hK=>?_;go_simp;(with_reducible refine (Zf nm _).mono ?_);rintro e w5 ⟨rfl,rfl⟩;rw [Hq.out];refine hG hK hS fun hS=>?_;clear hK K;(iterate 3 refine hP hS ?_);refine hP1 hS H1.out ?_;(iterate 4 refine hP hS ?_);refine hP1 hS H1.out ?_;(iterate 3 refine hP hS ?_);(iterate 14 refine hO hS ?_);refine hP hS ?_;refine zc ?_;go_wp2;go_ret;exact ⟨by rw [HN.out];rfl,bon (bon HB0.out HL.out) hS⟩
     have e2:decide (9007199254740991<of)=false:=(by simpa using r2);have HO:=za (show 0<=of/\of<=9007199254740991 from by omega);by_cases hk1:0<k
     ·have e3:decide (0<(k:Int))=true:=(by simp;omega);have hk1i:0<(k:Int):=(by omega);obtain ⟨ap,mp,hAp,hbp,hp,hatp⟩:=Yk (HMk.out _ HL.out) (show k-1<mn by omega);cases hAp;obtain ⟨j,hj⟩:∃ j,j=k-1:=⟨_,rfl⟩;rw [<-hj] at hp hatp;have cp:=hatp.c0;have Hprev:=za (show zu ms k=some mp by unfold zu;rw [if_neg (by omega),<-hj];exact hp);have hks:(k:Int)-1=(j:Int):=(by omega);have hkn:(j:Int)<(mn:Int):=(by omega);have hkw:IntKind.i64.wrap (j:Int)=(j:Int):=wrap_i64 j (by omega);clear hatp hp hbp hj;obtain ⟨pn,po⟩:=mp;simp only at cp;have HP:=za (show ∀ w',Below (wr.alloc (.cells #[.string nm,.int .i64 of] 90)).heap.size (wr.alloc (.cells #[.string nm,.int .i64 of] 90)) w'->w'.cell? (ad.add (j*2))=some (.string pn) from fun w' h=>(h.cell (World.block_lt_of_cell? _ _ cp)).trans cp);clear cp;have HN:=za (show zn yi none ms=(Zn pn nm&&zn yi (zu ms (k+1)) (ms.drop (k+1))) by rw [HS.out,Hprev.out,aad Hq.out HO.out]);cases hb:Zn pn nm with
      | true=>
       obtain ⟨hl1,hl2⟩:=ajd hb;have HN:=za (show zn yi none ms=zn yi (zu ms (k+1)) (ms.drop (k+1)) by rw [HN.out,hb];rfl);clear hb;go_wp2;generalize hW2:wr.alloc (.cells #[.string nm,.int .i64 of] 90)=W1;rw [hW2] at HL BX;have HW2:=za hW2;have H0:=za (show ak1 W1 ⟨wr.heap.size,0,none⟩ (.string nm) from fun w' h=>(BX.out.on h).cell 0);have H1:=za (show ak1 W1 ⟨wr.heap.size,1,none⟩ (.int .i64 of) from fun w' h=>(BX.out.on h).cell 1);have T2:=za (show ak1 W1 ⟨w.heap.size+1,2,none⟩ (.slice (some ad) mn mc) from fun w' h=>T2.out w' (bon HL.out h));clear hW2 t2;have hS:=ak2 W1;refine hB W1 [0,1,tt 2,3,4,5,6,7,8,9,10,11,12,13,14,15,16,17,18,19,20,21,22,23,24,25,26,27,28,29] ?_;refine hP hS ?_;refine hP1 hS H0.out ?_;refine hE fun K hK=>?_;go_simp;(with_reducible refine (Zf nm _).mono ?_);rintro e w5 ⟨rfl,rfl⟩;rw [Hq.out];refine hG hK hS fun hS=>?_;clear hK K;(iterate 3 refine hP hS ?_);refine hP1 hS H1.out ?_;(iterate 4 refine hP hS ?_);refine hP1 hS H1.out ?_;(iterate 7 refine hP hS ?_);refine hP1 hS H0.out ?_;refine hP hS ?_;refine hP1 hS T2.out ?_;(iterate 4 refine hP hS ?_);rw [HW2.out] at HP;refine hP1 hS HP.out ?_;(iterate 3 refine hP hS ?_);refine zc ?_;have HL:=za (bon HL.out hS);clear hS;go_wp2;go_roundw;case rel=>exact ⟨k+1,by omega,by go_num,HN,HL⟩
       case measure=>simp [intOf];omega
      | false=>
       have hl:=ajU hb;have HN:=za (qD (show stB s st=false by unfold stB yb;rw [hms,HN.out,hb];simp));clear hb;rcases hl with hl1 | ⟨hl1,hl2⟩
       ·go_wp2;generalize hW2:wr.alloc (.cells #[.string nm,.int .i64 of] 90)=W1;rw [hW2] at HL BX;have HW2:=za hW2;have H0:=za (show ak1 W1 ⟨wr.heap.size,0,none⟩ (.string nm) from fun w' h=>(BX.out.on h).cell 0);have H1:=za (show ak1 W1 ⟨wr.heap.size,1,none⟩ (.int .i64 of) from fun w' h=>(BX.out.on h).cell 1);have T2:=za (show ak1 W1 ⟨w.heap.size+1,2,none⟩ (.slice (some ad) mn mc) from fun w' h=>T2.out w' (bon HL.out h));clear hW2 t2;have hS:=ak2 W1;refine hB W1 [0,1,tt 2,3,4,5,6,7,8,9,10,11,12,13,14,15,16,17,18,19,20,21,22,23,24,25,26,27,28,29] ?_;refine hP hS ?_;refine hP1 hS H0.out ?_;refine hE fun K hK=>?_;go_simp;(with_reducible refine (Zf nm _).mono ?_);rintro e w5 ⟨rfl,rfl⟩;rw [Hq.out];refine hG hK hS fun hS=>?_;clear hK K;(iterate 3 refine hP hS ?_);refine hP1 hS H1.out ?_;(iterate 4 refine hP hS ?_);refine hP1 hS H1.out ?_;(iterate 7 refine hP hS ?_);refine hP1 hS H0.out ?_;refine hP hS ?_;refine hP1 hS T2.out ?_;(iterate 4 refine hP hS ?_);rw [HW2.out] at HP;refine hP1 hS HP.out ?_;(iterate 3 refine hP hS ?_);refine zc ?_;go_wp2;go_ret;exact ⟨by rw [HN.out];rfl,bon (bon HB0.out HL.out) hS⟩
       go_wp2;generalize hW2:wr.alloc (.cells #[.string nm,.int .i64 of] 90)=W1;rw [hW2] at HL BX;have HW2:=za hW2;have H0:=za (show ak1 W1 ⟨wr.heap.size,0,none⟩ (.string nm) from fun w' h=>(BX.out.on h).cell 0);have H1:=za (show ak1 W1 ⟨wr.heap.size,1,none⟩ (.int .i64 of) from fun w' h=>(BX.out.on h).cell 1);have T2:=za (show ak1 W1 ⟨w.heap.size+1,2,none⟩ (.slice (some ad) mn mc) from fun w' h=>T2.out w' (bon HL.out h));clear hW2 t2;have hS:=ak2 W1;refine hB W1 [0,1,tt 2,3,4,5,6,7,8,9,10,11,12,13,14,15,16,17,18,19,20,21,22,23,24,25,26,27,28,29] ?_;refine hP hS ?_;refine hP1 hS H0.out ?_;refine hE fun K hK=>?_;go_simp;(with_reducible refine (Zf nm _).mono ?_);rintro e w5 ⟨rfl,rfl⟩;rw [Hq.out];refine hG hK hS fun hS=>?_;clear hK K;(iterate 3 refine hP hS ?_);refine hP1 hS H1.out ?_;(iterate 4 refine hP hS ?_);refine hP1 hS H1.out ?_;(iterate 7 refine hP hS ?_);refine hP1 hS H0.out ?_;refine hP hS ?_;refine hP1 hS T2.out ?_;(iterate 4 refine hP hS ?_);rw [HW2.out] at HP;refine hP1 hS HP.out ?_;(iterate 3 refine hP hS ?_);refine zc ?_;go_wp2;go_ret;exact ⟨by rw [HN.out];rfl,bon (bon HB0.out HL.out) hS⟩
     have e3:decide (0<(k:Int))=false:=(by simp;omega);have HN:=za (show zn yi none ms=zn yi (zu ms (k+1)) (ms.drop (k+1)) by rw [HS.out,show zu ms k=none by unfold zu;rw [if_pos (by omega)],aae Hq.out HO.out];rfl);go_wp2;generalize hW2:wr.alloc (.cells #[.string nm,.int .i64 of] 90)=W1;rw [hW2] at HL BX;have HW2:=za hW2;have H0:=za (show ak1 W1 ⟨wr.heap.size,0,none⟩ (.string nm) from fun w' h=>(BX.out.on h).cell 0);have H1:=za (show ak1 W1 ⟨wr.heap.size,1,none⟩ (.int .i64 of) from fun w' h=>(BX.out.on h).cell 1);have T2:=za (show ak1 W1 ⟨w.heap.size+1,2,none⟩ (.slice (some ad) mn mc) from fun w' h=>T2.out w' (bon HL.out h));clear hW2 t2;have hS:=ak2 W1;refine hB W1 [0,1,tt 2,3,4,5,6,7,8,9,10,11,12,13,14,15,16,17,18,19,20,21,22,23,24,25,26,27,28,29] ?_;refine hP hS ?_;refine hP1 hS H0.out ?_;refine hE fun K hK=>?_;go_simp;(with_reducible refine (Zf nm _).mono ?_);rintro e w5 ⟨rfl,rfl⟩;rw [Hq.out];refine hG hK hS fun hS=>?_;clear hK K;(iterate 3 refine hP hS ?_);refine hP1 hS H1.out ?_;(iterate 4 refine hP hS ?_);refine hP1 hS H1.out ?_;(iterate 6 refine hP hS ?_);(iterate 10 refine hO hS ?_);(iterate 2 refine hP hS ?_);refine zc ?_;have HL:=za (bon HL.out hS);clear hS;go_wp2;go_roundw;case rel=>exact ⟨k+1,by omega,by go_num,HN,HL⟩
     case measure=>simp [intOf];omega
   have d1:decide ((k:Int)<(mn:Int))=false:=by simp;omega
   have HM:=za (show yb ms=true by
    unfold yb;rw [HR.out,ZE yi (by rw [Hml.out];omega),decide_eq_true (show ms.length<=16 by rw [Hml.out];omega)];rfl)
   clear HR;go_wp2;clear t2 t3;generalize wr=wm at *;go_loopw [7] (fun kv wr=>∃ k:Nat,k<=rn/\kv=.int .i64 (k:Int)/\Hid (∀ j c,j<k->st.2.2.2.1[j]? = some c->Yj s.1 c=true)/\Hid (Below w1.heap.size w1 wr)) (fun kv _=>rn-(intOf kv).toNat)
   case atStart=>exact ⟨0,Nat.zero_le _,rfl,za (fun j c h=>by omega),HB⟩
   case round=>
    clear HB hk hlt d1;obtain ⟨k,hk,rfl,HN,HB⟩:=hrel;have t3:=T3.out _ HB.out;by_cases hlt:k<rn
    ·have d1:decide ((k:Int)<(rn:Int))=true:=(by simp;omega);have hki:(k:Int)<(rn:Int):=(by omega);obtain ⟨ad,A',c',it,rfl,hbk,hit,a0,a1,r1,rc1,rc2⟩:=(H.out.on HB.out).st.rows.at_ hlt;have Hit:=za hit;have R1:=za r1;have Hm:=za (Nat.le_trans rc1 rc2);have Hcl:=za (Hok.out.it it (List.mem_of_getElem? hit)).1;have LR:=za (show ak1 wr (ad.add (k*2)) (.slice A' it.1.length c') from fun w' h=>(h.cell (World.block_lt_of_cell? _ _ a0)).trans a0);have LW:=za (show ak1 wr ⟨(ad.add (k*2)).block,(ad.add (k*2)).off+1,none⟩ (.int .i64 it.2) from fun w' h=>(h.cell (World.block_lt_of_cell? _ _ a1)).trans a1);have T3:=za (show ak1 wr ⟨w.heap.size+1,3,none⟩ (.slice (some ad) rn rc) from fun w' h=>T3.out w' (bon HB.out h));have S0:=za (show ak1 wr ⟨w.heap.size,0,none⟩ (.slice CA cn cc) from fun w' h=>S0.out w' (bon HB.out h));clear hit hbk r1 rc1 rc2 a0 a1;obtain ⟨r,x⟩:=it;simp only at LR LW R1 Hm Hcl;generalize r.length=rl at *;by_cases hx:x=1
     ·subst hx;go_wp2;clear t3;have hS:=ak2 wr;refine hB wr [0,1,2,3,4,5,6,7,8,9,10,11,12,13,14,15,tt 16,17,18] ?_;refine hP hS ?_;refine hP1 hS T3.out ?_;(iterate 3 refine hP hS ?_);refine hP1 hS LW.out ?_;(iterate 3 refine hP hS ?_);refine hP1 hS S0.out ?_;refine hP hS ?_;refine hP1 hS T3.out ?_;(iterate 3 refine hP hS ?_);refine hP1 hS LR.out ?_;refine hE fun K hK=>?_;go_simp;(with_reducible refine (acg CA cn cc s.1 A' rl c' r _ ((H.out.on HB.out).on hS).sch.cols (R1.out.on hS) Hm.out Hcl.out).mono ?_);rintro e w5 ⟨rfl,hb5⟩;have HS:=za (bon hS hb5);clear hb5;refine hG hK (by exact HS.out) fun hS=>?_;clear hK K;clear HS;have ho:=ahv (cs:=s.1) (r:=r);by_cases hz:qm s.1 r=0
      ·have HN2:=za (show ∀ j c,j<k+1->st.2.2.2.1[j]? = some c->Yj s.1 c=true from fun j c hj hc=>by
        rcases Nat.lt_or_ge j k with h | h
        ·exact HN.out j c h hc
        obtain rfl:j=k:=(by omega);rw [Hit.out] at hc;cases hc;rw [ho,hz];rfl)
       rw [hz];clear ho hz;(iterate 2 refine hP hS ?_);refine zc ?_;have HL:=za (bon HB.out hS);clear hS;go_wp2;go_roundw;case rel=>exact ⟨k+1,by omega,by go_num,HN2,HL⟩
       case measure=>simp [intOf];omega
      have HF:=za (qD (show stB s st=false by
       have h1:st.2.2.2.1.all (Yj s.1)=false:=by
        rw [List.all_eq_false];exact ⟨_,List.mem_of_getElem? Hit.out,by rw [ho];simpa using hz⟩
       unfold stB qN;rw [h1];simp))
      have hzb:(qm s.1 r != 0)=true:=(by simpa using hz);clear ho hz;generalize qm s.1 r=E0 at *;(iterate 2 refine hP hS ?_);refine zc ?_;go_wp2;go_ret;exact ⟨by rw [HF.out];rfl,bon (bon HB0.out HB.out) hS⟩
     have HF:=za (qD (show stB s st=false by
      have h1:st.2.2.2.1.all (Yj s.1)=false:=by
       rw [List.all_eq_false];exact ⟨_,List.mem_of_getElem? Hit.out,by rw [ahu hx];simp⟩
      unfold stB qN;rw [h1];simp))
     have hxb:(x != 1)=true:=(by simpa using hx);clear hx;go_wp2;clear t3;have hS:=ak2 wr;refine hB wr [0,1,2,3,4,5,6,7,8,9,10,11,12,13,14,15,tt 16,17,18] ?_;refine hP hS ?_;refine hP1 hS T3.out ?_;(iterate 3 refine hP hS ?_);refine hP1 hS LW.out ?_;(iterate 2 refine hP hS ?_);(iterate 8 refine hO hS ?_);refine Yo rfl fun K hK=>?_;go_simp;refine hG hK hS fun hS=>?_;clear hK K;refine hO hS ?_;refine hP hS ?_;refine zc ?_;go_wp2;go_ret;exact ⟨by rw [HF.out];rfl,bon (bon HB0.out HB.out) hS⟩
    have d1:decide ((k:Int)<(rn:Int))=false:=by simp;omega
    have HA:=za (ajJ Hs1.out HV.out HL4.out (by rw [hms];exact HM.out) (show st.2.2.2.1.length<=4096 by rw [Hrl.out];omega) (by
     rw [List.all_eq_true];intro c hc;obtain ⟨j,hj⟩:=List.getElem?_of_mem hc;exact HN.out j c (by have:=(List.getElem?_eq_some_iff.1 hj).1;rw [Hrl.out] at this;omega) hj))
    (go_wp2_with fail);(with_reducible refine (acb RA rn rc st.2.2.2.1 _ (H.out.on HB.out).st.rows Hok.out.rn).mono ?_);rintro e w5 ⟨rfl,hb5⟩;have HB:=za (bon HB.out hb5);clear hb5;go_wp2;go_ret;exact ⟨by rw [HA.out];rfl,bon HB0.out HB.out⟩
end
section
open Go.RowKit
def Za (st:St) (k:Nat):List UInt8:=[77,73,1]++(agf st++qi (st.2.2.1.take k))
theorem abA (s:ByteArray):ql s.data.toList=yx s:=by
 unfold ql yx;rw [qb]
theorem abc (st:St):Za st 0=(([77,73,1]++leb st.1.toNat)++leb st.2.1.toNat)++leb st.2.2.1.length:=by
 unfold Za agf qi;simp
theorem abd {st:St} {k:Nat} {m:Mk} (h:st.2.2.1[k]? = some m):Za st (k+1)=(Za st k++ql m.1.data.toList)++leb m.2.toNat:=by
 have h1:qi [m]=ql m.1.data.toList++leb m.2.toNat:=by
  rw [abA];exact List.append_nil _
 unfold Za;rw [List.take_add_one,h,aaL,show (some m).toList=[m] from rfl,h1];simp
theorem aam {s:Sc} {st:St} {k:Nat} (h:st.2.2.1.length<=k):(Za st k++ql (yN s.1 (st.1,st.2.1,st.2.2.2.1)))++ql st.2.2.2.2=ZB s st:=by
 unfold Za ZB acQ;rw [List.take_of_length_le h];simp
theorem Yn {st:St} (h:∀ m∈st.2.2.1,m.1.size<=32/\0<=m.2/\m.2<=9007199254740991) (h16:st.2.2.1.length<=16) (k:Nat):(Za st k).length<=1000:=by
 have h1:=af9 (l:=st.2.2.1.take k) (fun m hm=>h m (List.mem_of_mem_take hm));have h2:(st.2.2.1.take k).length<=16:=by rw [List.length_take];omega
 have a:=zE st.1.toNat;have b:=zE st.2.1.toNat;have c:=zE st.2.2.1.length;unfold Za agf;simp only [List.length_append,List.length_cons,List.length_nil];omega
theorem aiW (CA:Option Addr) (cn cc:Nat) (KA:Option Addr) (kn kc:Nat) (s:Sc) (MA:Option Addr) (mn mc:Nat) (RA:Option Addr) (rn rc:Nat) (LA:Option Addr) (ln lc:Nat) (st:St) (w:World) (h:ChkAt w CA cn KA kn s MA mn RA rn LA ln st) (hok:ChkOk cn kn mn rn ln s st) (hq9:st.2.1<=9223372036854775807) :
  Calls Tryz.prog 21 #[.agg #[.slice CA cn cc,.slice KA kn kc],.agg #[.int .i64 st.1,.int .i64 st.2.1,.slice MA mn mc,.slice RA rn rc,.slice LA ln lc]] w (aeP (Zi s st) (ZV s st) w):=by
 obtain ⟨i0,hi0,hz0,hz1,hz2⟩:=info_parts z7;have Hok:=za hok;have Hq9:=za hq9;have Hml:=za (qR h.st.marks);have Hll:=za h.st.lastlen;obtain ⟨W,hW1⟩:∃ W,(w.alloc (.cells #[.slice CA cn cc,.slice KA kn kc] 48)).alloc (.cells #[.int .i64 st.1,.int .i64 st.2.1,.slice MA mn mc,.slice RA rn rc,.slice LA ln lc] 51)=W:=⟨_,rfl⟩;have H:=za (show ChkAt W CA cn KA kn s MA mn RA rn LA ln st by rw [<-hW1];exact (h.al _).al _);have HB:=za (show Below w.heap.size w W by rw [<-hW1];exact bal (bal (Below.refl _ _) _) _);have BS:=za (show Blk W w.heap.size 48 #[.slice CA cn cc,.slice KA kn kc] by rw [<-hW1];exact (Blk.new w _ _).alloc _);have BT:=za (show Blk W (w.heap.size+1) 51 #[.int .i64 st.1,.int .i64 st.2.1,.slice MA mn mc,.slice RA rn rc,.slice LA ln lc] by rw [<-hW1];exact Blk.new' _ _ _ _ (by simp));clear h hok hq9;have s0:=BS.out.cell 0;have s1:=BS.out.cell 1;have t0:=BT.out.cell 0;have t1:=BT.out.cell 1;have t2:=BT.out.cell 2;have t3:=BT.out.cell 3;have t4:=BT.out.cell 4;go_enter Tryz.func21,Tryz.ntmps21;go_wp2_with fail
 try rw [hW1]
 clear hW1 s0 s1 t0 t1 t2 t3 t4;with_reducible refine (ahe CA cn cc KA kn kc s MA mn mc RA rn rc LA ln lc st _ H.out Hok.out).mono ?_
 rintro e w1 ⟨rfl,hb⟩;have HB:=za (bon HB.out hb);have BS:=za (BS.out.on hb);have BT:=za (BT.out.on hb);have H:=za (H.out.on hb);clear hb;by_cases hE:Zi s st=0
 case neg=>
  have HE:=za hE;have hz:(Zi s st != 0)=true:=by simpa using hE
  clear hE;generalize Zi s st=E at *;go_wp2;go_ret2;exact ⟨HB.out,.inr ⟨HE.out,rfl⟩⟩
 have HE:=za hE;have Hst:=za (Jp ((Vu (s:=s) (st:=st)).1 hE));rw [hE];clear hE;obtain ⟨V,hV,hVl⟩:∃ V:Nat,st.1.toNat=V/\V<=64:=⟨st.1.toNat,rfl,by have:=Hst.out.v;omega⟩;obtain ⟨Q,hQ,hQl⟩:∃ Q:Nat,st.2.1.toNat=Q/\Q<=9223372036854775807:=⟨st.2.1.toNat,rfl,by have:=Hq9.out;omega⟩;have hwv:IntKind.u64.wrap st.1=(V:Int):=by have:=Hst.out.v;rw [yv st.1 (by omega) (by omega),hV]
 have hwq:IntKind.u64.wrap st.2.1=(Q:Int):=by rw [yv st.2.1 Hst.out.q Hq9.out,hQ]
 have hmn16:mn<=16:=by have:=Hst.out.many;rw [Hml.out] at this;exact this
 have hwm:IntKind.u64.wrap (mn:Int)=(mn:Int):=(yv mn (by omega) (by omega)).trans (by simp);have HP0:=za (show Za st 0=(([77,73,1]++leb V)++leb Q)++leb mn by rw [abc,hV,hQ,Hml.out]);clear hV hQ;have HR0:=za (show Reads (w1.alloc (.cells #[.int .u8 77,.int .u8 73,.int .u8 1] 5)) (w1.alloc (.cells #[.int .u8 77,.int .u8 73,.int .u8 1] 5)).heap.size 1 (some ⟨w1.heap.size,0,none⟩) 3 (u8s [77,73,1]) from qB _ _ _ _ _ _ rfl rfl rfl);have hb:=bal (Below.refl w1.heap.size w1) (.cells #[.int .u8 77,.int .u8 73,.int .u8 1] 5);have HB:=za (bon HB.out hb);have BS:=za (BS.out.on hb);have BT:=za (BT.out.on hb);have H:=za (H.out.on hb);clear hb;have t0:=BT.out.cell 0;have l1:=zE V;have l2:=zE Q;have l3:=zE mn;go_wp2_with fail
 with_reducible refine (yk (some ⟨w1.heap.size,0,none⟩) 3 3 V [77,73,1] _ HR0.out (by decide) (by omega)).mono ?_
 rintro e w2 ⟨A2,c2,rfl,-,-,q3,hb⟩;have HB:=za (bon HB.out hb);have BS:=za (BS.out.on hb);have BT:=za (BT.out.on hb);have H:=za (H.out.on hb);have HO:=za (ze q3);clear q3 hb t0 hwv HR0;have t1:=BT.out.cell 1;generalize (leb V).length=v9 at *;go_wp2_with fail
 with_reducible refine (yk A2 (3+v9) c2 Q ([77,73,1]++leb V) _ HO.out (by omega) (by omega)).mono ?_
 rintro e w3 ⟨A3,c3,rfl,-,-,q3,hb⟩;have HB:=za (bon HB.out hb);have BS:=za (BS.out.on hb);have BT:=za (BT.out.on hb);have H:=za (H.out.on hb);have HO:=za (ze q3);clear q3 hb t1 hwq;have t2:=BT.out.cell 2;generalize (leb Q).length=q9 at *;go_wp2_with fail
 with_reducible refine (yk A3 (3+v9+q9) c3 mn (([77,73,1]++leb V)++leb Q) _ HO.out (by omega) (by omega)).mono ?_
 rintro e w4 ⟨A4,c4,rfl,-,-,q3,hb⟩;have HB:=za (bon HB.out hb);have BS:=za (BS.out.on hb);have BT:=za (BT.out.on hb);have H:=za (H.out.on hb);rw [<-HP0.out] at q3;have HO:=za (ze q3);clear q3 hb t2 hwm;generalize 3+v9+q9+(leb mn).length=n4 at *;clear l1 l2 l3 HP0;go_wp2;have HBw:=za HB.out;clear HB;go_loopw [7,8] (fun sv kv wr=>∃ (k n9:Nat) (A9:Option Addr) (c9:Nat),k<=mn/\sv=.slice A9 n9 c9/\kv=.int .i64 (k:Int)/\Hid (Reads wr wr.heap.size 1 A9 n9 (u8s (Za st k)))/\Hid (Below w4.heap.size w4 wr)) (fun _ kv _=>mn-(intOf kv).toNat)
 case atStart=>exact ⟨0,n4,A4,c4,Nat.zero_le _,rfl,rfl,HO,za (Below.refl _ _)⟩
 case round=>
  clear HO;obtain ⟨k,n9,A9,c9,hk,rfl,rfl,HO,HB⟩:=hrel;have hn9:n9<=1000:=by
   have:=zh HO.out;have h2:=Yn Hst.out.mkk Hst.out.many k;omega
  have t2:=(BT.out.on HB.out).cell 2;by_cases hlt:k<mn
  ·have d1:decide ((k:Int)<(mn:Int))=true:=(by simp;omega);have hki:(k:Int)<(mn:Int):=(by omega);obtain ⟨ad,m,rfl,hbk,hm,hat⟩:=Yk (H.out.on HB.out).st.marks hlt;have Hsu:=za (abd hm);have hmk:=Hst.out.mkk m (List.mem_of_getElem? hm);have c0:=hat.c0;have Hc1:=za (show ak1 wr ⟨(ad.add (k*2)).block,(ad.add (k*2)).off+1,none⟩ (.int .i64 m.2) from fun w' h=>(h.cell (World.block_lt_of_cell? _ _ hat.c1)).trans hat.c1);obtain ⟨nm,of⟩:=m;simp only at hmk c0 Hc1 Hsu;have hwo:IntKind.u64.wrap of=((of.toNat:Nat):Int):=yv of (by omega) (by omega);have hof:of.toNat<18446744073709551616:=(by omega);have hnm:nm.size<=32:=hmk.1;obtain ⟨A1,c1,w5,hconv,r1,-,-,hb1⟩:=UH (P:=Tryz.prog) wr 9 35 5 nm Tryz.underlying9 Tryz.underlying35 Tryz.underlying5 (by simp only [maxLen];omega);have HK:=za (JM A9 n9 c9 (Za st k) A1 nm.size c1 nm.data.toList w5 (HO.out.on hb1) r1 (by omega) (by omega));have Hb1:=za hb1;generalize of.toNat=ofn at *;clear hm hat hbk hmk r1 hb1;(go_wp2_with fail);(with_reducible refine HK.out.mono ?_);rintro e w6 ⟨A5,c5,rfl,-,-,ho,hb⟩;have HO:=za (ze ho);have Hb1:=za (bon Hb1.out hb)
   have hl5:=za (show (Za st k++ql nm.data.toList).length<=2000 by
    have:=Yn Hst.out.mkk Hst.out.many k;have h3:=zE nm.size;have h4:=qb nm;rw [List.length_append,abA,yx,List.length_append];omega)
   clear ho hb HK hconv c0 t2;generalize (Za st k++ql nm.data.toList).length=n5 at *;have hl5:=hl5.out;have t2:=(BT.out.on (bon HB.out Hb1.out)).cell 2;have c1:=Hc1.out _ Hb1.out;(go_wp2_with fail);(with_reducible refine (yk A5 n5 c5 ofn (Za st k++ql nm.data.toList) _ HO.out (by omega) hof).mono ?_);rintro e w7 ⟨A6,c6,rfl,-,-,ho,hb⟩;rw [<-Hsu.out] at ho;have HO:=za (ze ho);have HB:=za (bon (bon HB.out Hb1.out) hb);clear ho hb c1 t2;go_wp2;go_roundw;case rel=>exact ⟨k+1,_,A6,c6,by omega,rfl,by go_num,HO,HB⟩
   case measure=>simp [intOf];omega
  have d1:decide ((k:Int)<(mn:Int))=false:=by simp;omega
  have HAll:=za (aam (s:=s) (st:=st) (k:=k) (by rw [Hml.out];omega));have s0:=(BS.out.on HB.out).cell 0;have t0:=(BT.out.on HB.out).cell 0;have t1:=(BT.out.on HB.out).cell 1;have t3:=(BT.out.on HB.out).cell 3;go_wp2_with fail
  with_reducible refine (ahc CA cn cc s.1 st.1 st.2.1 RA rn rc st.2.2.2.1 _ (H.out.on HB.out).sch.cols (by have:=Hok.out.cn;simp only [maxLen];omega) (H.out.on HB.out).st.rows Hok.out.rn (Hst.out.baok Hq9.out) Hok.out.it).mono ?_
  rintro e w7 ⟨hb,⟨-,Ab,cb,rfl,ho⟩ | ⟨h0,-⟩⟩;case inr=>exact absurd ((Us s.1 (st.1,st.2.1,st.2.2.2.1)).2 Hst.out.fits) h0
  have HO2:=za (ze ho);have HO:=za (HO.out.on hb);have HB:=za (bon HB.out hb);have hel:=Hst.out.enc_le;clear s0 t0 t1 t2 t3 ho hb;generalize hen:yN s.1 (st.1,st.2.1,st.2.2.2.1)=enc at *;clear hen;have T4:=za (show ak1 w7 ⟨w.heap.size+1,4,none⟩ (.slice LA ln lc) from fun w' h=>(BT.out.on (bon HB.out h)).cell 4);generalize hel9:enc.length=en at *;go_wp2;have hS:=ak2 w7;have hln:ln<=1048576:=by have:=Hst.out.last;rw [Hll.out] at this;exact this
  have hnn:(Za st k++ql enc).length<=150000000:=by
   have:=Yn Hst.out.mkk Hst.out.many k;have h3:=zE enc.length;rw [List.length_append,ql,List.length_append];omega
  refine hB w7 [0,1,3,4,tt 2,tt 5,6] ?_;iterate 3 refine hP hS ?_
  refine hP1 hS T4.out ?_;refine hE fun K hK=>?_;go_simp;with_reducible refine (JM A9 n9 c9 (Za st k) Ab en cb enc _ (HO.out.on hS) (HO2.out.on hS) (by omega) (by omega)).mono ?_
  rintro e w8 ⟨A5,c5,rfl,-,-,ho,hb⟩;have HO:=za (ze ho);have HS:=za (bon hS hb);clear ho hb;refine hG hK (by exact HS.out) fun hS=>?_;clear hK K;clear HS;generalize (Za st k++ql enc).length=n5 at *;refine hE fun K hK=>?_;go_simp;with_reducible refine (JM A5 n5 c5 (Za st k++ql enc) LA ln lc st.2.2.2.2 _ HO.out (H.out.on (bon HB.out hS)).st.last (by omega) (by omega)).mono ?_
  rintro e w9 ⟨A6,c6,rfl,-,-,ho,hb⟩;rw [HAll.out] at ho ⊢;have HO:=za (zi ho (show w.heap.size<=w8.heap.size from Nat.le_trans (bon HBw.out HB.out).size hS.size));have HS:=za (bon hS hb);clear ho hb;refine hG hK (by exact HS.out) fun hS=>?_;clear hK K;clear HS;refine hP hS ?_;refine zc ?_;have HBf:=za (bon (bon HBw.out HB.out) hS);clear hS;have hib:(ZB s st).length<=1000000000:=by
   have:=Hst.out.enc_le;have h2:=Yn Hst.out.mkk Hst.out.many k;have h3:=zE (yN s.1 (st.1,st.2.1,st.2.2.2.1)).length;have h4:=zE st.2.2.2.2.length;have h5:=Hst.out.last;have h6:(ZB s st).length=((Za st k++ql (yN s.1 (st.1,st.2.1,st.2.2.2.1)))++ql st.2.2.2.2).length:=(by rw [aam (by rw [Hml.out];omega)]);rw [h6,List.length_append,List.length_append,ql,ql,List.length_append,List.length_append];omega
  have HSum:=za (ace A6 (ZB s st).length c6 (ZB s st) w9 (ze HO.out) (by simp only [maxLen];omega));have hs:zZ (ZB s st)<4294967296:=Uu 0 (ZB s st);have HIA:=za (show ZB s st++yj (zZ (ZB s st))=ZV s st from rfl);have HLA:=za (show (ZB s st).length+4=(ZV s st).length by rw [Un]);generalize zZ (ZB s st)=X at *;generalize ZB s st=ib at *;generalize ib.length=il at *;go_wp2_with fail
  with_reducible refine HSum.out.mono ?_
  rintro e w10 ⟨rfl,rfl⟩;go_wp2_with fail
  with_reducible refine (JR X hs _).mono ?_
  rintro e w11 ⟨g,rfl,-,ho,hb⟩;have HO4:=za (ze ho);have HO:=za (zd HO.out hb);have HBf:=za (bon HBf.out hb);clear ho hb HSum;have hs1:il+4<=maxLen:=by simp only [maxLen];omega
  have hs2:(il+4)*1<=70368744177664:=by omega
  have hbs:=HBf.out.size;have hr4:=HO4.out
  go_wp2_with (at_builtin
               refine zb _ rfl (.tmp 78) (.tmp 81) 35 rfl w.heap.size 5 i0 (.int .u8 0) 1 1 Tryz.underlying35 hi0 hz0 hz1 hz2 rfl (by decide) A6 il c6 _ rfl HO.out (some ⟨g,0,none⟩) 4 4 (u8s (yj X)) rfl hr4 (z6 _) hs1 hs2 hbs ?_;intro A8 c8 w12 r1 r2 r3 r4 r5;rw [<-zt] at r1;have R1:=za r1;have R2:=za (HBf.out.trans r2);clear r1 r2 r3 r4 r5 hr4)
  go_ret2;have R1:=R1.out;rw [HLA.out,HIA.out] at R1;rw [HLA.out];exact ⟨R2.out,.inl ⟨HE.out,A8,c8,rfl,R1⟩⟩
end
section
open Go.RowKit
theorem abv (base g:Nat) (r:Option Nat) (B:List UInt8) (most:Int) (full:Bool) (s:ByteArray) (w:World) (hp:PWr w base g r B most full) (hm0:0<=most) (hm1:most<=9223372036854775807) (hs0:s.size<=1000000000) (hb:B.length<=1000000000) :
  Calls Tryz.prog 57 #[.pointer (some ⟨g,0,none⟩),.string s] w (Wr base g r B most full (yx s) w):=by
 obtain ⟨i0,hi0,hz0,hz1,hz2⟩:=info_parts z7;go_enter Tryz.func57,Tryz.ntmps57;have hl:=zE s.size;have hs:s.size<18446744073709551616:=by omega
 have hss:s.size<=9223372036854775807:=by omega
 have Hbs:=za (qb s);have hp':=za hp;clear hp;go_wp2_with fail
 with_reducible refine (YC none 0 0 s.size [] _ Reads.none_ (by decide) (by decide) (by decide) hs).mono ?_
 simp only [Nat.zero_add,List.nil_append];rintro e w1 ⟨A1,c1,rfl,g1,g2,o1,hb1⟩;have hs63:(leb s.size).length+s.data.toList.length<=70368744177664:=by have:=Hbs.out;omega
 have hsz:=hb1.size
 go_wp2_with (at_builtin
              refine Yu rfl (.tmp 8) (.tmp 9) 35 9 rfl w.heap.size 5 i0 Tryz.underlying35 Tryz.underlying9 hi0 hz0 hz1 hz2 A1 _ c1 _ rfl o1 s rfl hs63 hsz ?_;intro A2 c2 w2 o2 hb2 hg2 hc2 hd2)
 have hb3:Below w.heap.size w w2:=hb1.trans hb2;have r2:=ze o2;refine (Jy base g r B most full A2 _ c2 (yx s) _ (hp'.out.on hb3) hm0 hm1 r2 (by have:=Hbs.out;omega)).mono ?_;rintro e w2 hw;obtain ⟨rfl,-⟩:=id hw;go_wp2
 go_end0
 exact hw.from_ hb3
def Wg (base:Nat) (w0:World) (B:List UInt8) (wr:World):Prop:=(∃ r,PWr wr base base r B 2147483647 false)/\Below base w0 wr/\base<=wr.heap.size
theorem aiX {B b:List UInt8} (h:B.length+b.length<=2147483647):aaK B 2147483647 false b=(B++b,false):=by
 unfold aaK;rw [if_neg];simp only [Bool.false_eq_true,false_or];omega
theorem Wg.on {base:Nat} {w0 w w':World} {B:List UInt8} (h:Wg base w0 B w) (hb:Below w.heap.size w w'):Wg base w0 B w':=by
 obtain ⟨⟨r,hp⟩,h2,h3⟩:=h;exact ⟨⟨r,hp.on hb⟩,h2.trans (hb.mono h3),Nat.le_trans h3 hb.size⟩
theorem Wg.of {base:Nat} {w0 w w':World} {B b:List UInt8} {r:Option Nat} {e:Ending} (hp:PWr w base base r B 2147483647 false) (h2:Below base w0 w) (h3:base<=w.heap.size) (hl:B.length+b.length<=2147483647) (h:Wr base base r B 2147483647 false b w e w') :
  e=.returned (.tuple #[])/\Wg base w0 (B++b) w'/\∀ k t cs,Blk w k t cs->t≠159->t≠5->Blk w' k t cs:=by
 obtain ⟨k0,h4,r',h5,h6⟩:=h;rw [aiX hl] at h6;have hlt:=hp.lt;have hb:Below base w w':=h4.below h3 (Nat.le_refl _) (fun k hk=>(hlt.2.2 k hk).1);refine ⟨k0,⟨⟨r',h6⟩,h2.trans hb,Nat.le_trans h3 h4.size⟩,fun k t cs hk ht hu=>?_⟩;obtain ⟨-,A,c,hw,ho,hr⟩:=hp;refine (h4.block k hk.lt ?_ ?_).trans hk
 ·intro e;subst e;have e1:=(hw.symm.trans hk)
  injection e1 with e1
  injection e1 with e2 e3
  exact ht e3.symm
 intro e;exact abK ho hk (Ne.symm hu) (hr.trans e.symm)
section
variable {base:Nat} {w0 w:World} {B:List UInt8}
def Wgd (base:Nat) (w0 w:World) (B:List UInt8) (e:Ending) (w':World):Prop:=e=.returned (.tuple #[])/\Wg base w0 B w'/\∀ k t cs,Blk w k t cs->t≠159->t≠5->Blk w' k t cs
theorem Vs (n:Nat) (h:Wg base w0 B w) (hn:n<18446744073709551616) (hB:B.length<=1000000000) :
  Calls Tryz.prog 56 #[.pointer (some ⟨base,0,none⟩),.int .u64 (n:Int)] w (Wgd base w0 w (B++leb n)):=by
 obtain ⟨⟨r,hp⟩,h2,h3⟩:=h;exact (agL base base r B 2147483647 false n w hp (by decide) (by decide) hn hB).mono fun e w' hw=>Wg.of hp h2 h3 (by have:=zE n;omega) hw
theorem VW (t:ByteArray) (h:Wg base w0 B w) (hs:t.size<=500000000) (hB:B.length<=1000000000) :
  Calls Tryz.prog 57 #[.pointer (some ⟨base,0,none⟩),.string t] w (Wgd base w0 w (B++yx t)):=by
 obtain ⟨⟨r,hp⟩,h2,h3⟩:=h
 exact (abv base base r B 2147483647 false t w hp (by decide) (by decide) (by omega) hB).mono fun e w' hw=>Wg.of hp h2 h3 (by
  have:=zE t.size;have h5:=qb t;unfold yx;rw [List.length_append];omega) hw
theorem agb (A:Option Addr) (l c:Nat) (xs:List UInt8) (h:Wg base w0 B w) (hr:Reads w w.heap.size 1 A l (u8s xs)) (hl:l<=1000000) (hB:B.length<=1000000000) :
  Calls Tryz.prog 55 #[.pointer (some ⟨base,0,none⟩),.slice A l c] w (Wgd base w0 w (B++xs)):=by
 have hx:=zh hr;obtain ⟨⟨r,hp⟩,h2,h3⟩:=h;exact (Jy base base r B 2147483647 false A l c xs w hp (by decide) (by decide) hr (by omega)).mono fun e w' hw=>Wg.of hp h2 h3 (by omega) hw
theorem aej (h:Wg base w0 B w) (hB:B.length<=1000000000) :
  Calls Tryz.prog 58 #[.pointer (some ⟨base,0,none⟩)] w fun e w'=>∃ A c,e=.returned (.tuple #[.slice A B.length c,.int .i64 0])/\w'.ownsRow w.heap.size 5 1 (.slice A B.length c) B.length (u8s B)/\Below w.heap.size w w':=by
 obtain ⟨⟨r,hp⟩,h2,h3⟩:=h;refine (afn base base r B 2147483647 false w hp hB).mono fun e w' hw=>?_;obtain ⟨h4,A,c,h5,-,-,h6⟩:=hw;exact ⟨A,c,h5,h6,h4⟩
end
theorem ahM (w:World):Calls Tryz.prog 54 #[.int .i64 2147483647] w fun e w'=>∃ g,g=w.heap.size/\e=.returned (.pointer (some ⟨g,0,none⟩))/\Wg g w [] w':=by
 refine (ahx 2147483647 w (by decide) (by decide)).mono fun e w' h=>?_;obtain ⟨h1,h2,h3,h4⟩:=h;exact ⟨_,rfl,h1,⟨_,h2⟩,h3,Nat.le_of_lt h4⟩
end
section
open Go.RowKit
theorem aen (st:St):Za st 0=((([]++[77,73,1])++leb st.1.toNat)++leb st.2.1.toNat)++leb st.2.2.1.length:=by rw [abc];rfl
theorem aeo {st:St} {k:Nat} {m:Mk} (h:st.2.2.1[k]? = some m):Za st (k+1)=(Za st k++yx m.1)++leb m.2.toNat:=by rw [abd h,abA]
theorem VY (CA:Option Addr) (cn cc:Nat) (KA:Option Addr) (kn kc:Nat) (s:Sc) (MA:Option Addr) (mn mc:Nat) (RA:Option Addr) (rn rc:Nat) (LA:Option Addr) (ln lc:Nat) (st:St) (w:World) (h:ChkAt w CA cn KA kn s MA mn RA rn LA ln st) (hok:ChkOk cn kn mn rn ln s st) (hq9:st.2.1<=9223372036854775807) (hT2:Tab2 w.heap.size w) (hEr:ErrT w) :
  Calls Tryz.prog 20 #[.agg #[.slice CA cn cc,.slice KA kn kc],.agg #[.int .i64 st.1,.int .i64 st.2.1,.slice MA mn mc,.slice RA rn rc,.slice LA ln lc]] w (aeP (Zi s st) (ZV s st) w):=by
 obtain ⟨i0,hi0,hz0,hz1,hz2⟩:=info_parts z7;have Hok:=za hok;have Hq9:=za hq9;have HT2:=za hT2;have Hml:=za (qR h.st.marks);have Hll:=za h.st.lastlen;obtain ⟨W,hW1⟩:∃ W,(w.alloc (.cells #[.slice CA cn cc,.slice KA kn kc] 48)).alloc (.cells #[.int .i64 st.1,.int .i64 st.2.1,.slice MA mn mc,.slice RA rn rc,.slice LA ln lc] 51)=W:=⟨_,rfl⟩;have H:=za (show ChkAt W CA cn KA kn s MA mn RA rn LA ln st by rw [<-hW1];exact (h.al _).al _);have HB:=za (show Below w.heap.size w W by rw [<-hW1];exact bal (bal (Below.refl _ _) _) _);have BS:=za (show Blk W w.heap.size 48 #[.slice CA cn cc,.slice KA kn kc] by rw [<-hW1];exact (Blk.new w _ _).alloc _);have BT:=za (show Blk W (w.heap.size+1) 51 #[.int .i64 st.1,.int .i64 st.2.1,.slice MA mn mc,.slice RA rn rc,.slice LA ln lc] by rw [<-hW1];exact Blk.new' _ _ _ _ (by simp));have hEW:=hEr.on HB.out;clear h hok hq9 hT2 hEr;have s0:=BS.out.cell 0;have s1:=BS.out.cell 1;have t0:=BT.out.cell 0;have t1:=BT.out.cell 1;have t2:=BT.out.cell 2;have t3:=BT.out.cell 3;have t4:=BT.out.cell 4;have HCk:=za (VZ CA cn cc KA kn kc s MA mn mc RA rn rc LA ln lc st W H.out Hok.out hEW);clear hEW;go_enter Tryz.func20,Tryz.ntmps20;go_wp2_with fail
 try rw [hW1]
 clear hW1 s0 s1 t0 t1 t2 t3 t4;with_reducible refine HCk.out.mono ?_
 rintro e w1 ⟨rfl,hb⟩;have HB:=za (bon HB.out hb);have BS:=za (BS.out.on hb);have BT:=za (BT.out.on hb);have H:=za (H.out.on hb);clear hb HCk;by_cases hE:Zi s st=0
 case neg=>
  have HE:=za hE;have hz:(Zi s st != 0)=true:=by simpa using hE
  clear hE;generalize Zi s st=E at *;go_wp2;go_ret2;exact ⟨HB.out,.inr ⟨HE.out,rfl⟩⟩
 have HE:=za hE;have Hst:=za (Jp ((Vu (s:=s) (st:=st)).1 hE));rw [hE];clear hE;obtain ⟨V,hV,hVl⟩:∃ V:Nat,st.1.toNat=V/\V<=64:=⟨st.1.toNat,rfl,by have:=Hst.out.v;omega⟩;obtain ⟨Q,hQ,hQl⟩:∃ Q:Nat,st.2.1.toNat=Q/\Q<=9223372036854775807:=⟨st.2.1.toNat,rfl,by have:=Hq9.out;omega⟩;have hwv:IntKind.u64.wrap st.1=(V:Int):=by have:=Hst.out.v;rw [yv st.1 (by omega) (by omega),hV]
 have hwq:IntKind.u64.wrap st.2.1=(Q:Int):=by rw [yv st.2.1 Hst.out.q Hq9.out,hQ]
 have hmn16:mn<=16:=by have:=Hst.out.many;rw [Hml.out] at this;exact this
 have hwm:IntKind.u64.wrap (mn:Int)=(mn:Int):=(yv mn (by omega) (by omega)).trans (by simp);have HP0:=za (show Za st 0=((([]++[77,73,1])++leb V)++leb Q)++leb mn by rw [aen,hV,hQ,Hml.out]);have HL0:=za (show (Za st 0).length<=1000 from Yn Hst.out.mkk Hst.out.many 0);clear hV hQ;go_wp2_with fail
 with_reducible refine (ahM _).mono ?_
 rintro e w2 ⟨g,hg,rfl,hwg⟩;have HW:=za hwg;have Hg:=za hg;clear hwg hg
 -- everything below the writer stays: facts for a world that keeps what is below g since w1
 have BS:=za (show ∀ w',Below g w1 w'->Blk w' w.heap.size 48 #[.slice CA cn cc,.slice KA kn kc] from fun w' h=>BS.out.on (Hg.out ▸ h));have BT:=za (show ∀ w',Below g w1 w'->Blk w' (w.heap.size+1) 51 #[.int .i64 st.1,.int .i64 st.2.1,.slice MA mn mc,.slice RA rn rc,.slice LA ln lc] from fun w' h=>BT.out.on (Hg.out ▸ h));have H:=za (show ∀ w',Below g w1 w'->ChkAt w' CA cn KA kn s MA mn RA rn LA ln st from fun w' h=>H.out.on (Hg.out ▸ h));have HBw:=za (show ∀ w',Below g w1 w'->Below w.heap.size w w' from fun w' h=>bon HB.out (Hg.out ▸ h));clear HB;have hconv:(convert 35 35 (.slice (some ⟨w2.heap.size,0,none⟩) 3 3)).run Tryz.prog (w2.alloc (.cells #[.int .u8 77,.int .u8 73,.int .u8 1] 5))=.ok (.slice (some ⟨w2.heap.size,0,none⟩) 3 3) (w2.alloc (.cells #[.int .u8 77,.int .u8 73,.int .u8 1] 5 (3,4))):=
  Lib.run_convert_bytes_const w2 _ _ _ 3 3 Tryz.underlying35 Tryz.underlying5
 have HW:=za (HW.out.on (bal (Below.refl w2.heap.size w2) (.cells #[.int .u8 77,.int .u8 73,.int .u8 1] 5 (3,4))));have HR0:=za (ZL w2 #[.int .u8 77,.int .u8 73,.int .u8 1] 5 3 4 3 (u8s [77,73,1]) rfl rfl);go_wp2_with fail
 with_reducible refine (agb (some ⟨w2.heap.size,0,none⟩) 3 3 [77,73,1] HW.out HR0.out (by decide) (by simp)).mono ?_
 rintro e w5 hw5;obtain ⟨k0,HWn,hbl⟩:=hw5;subst k0;have HW:=za HWn;clear HWn hbl;clear hconv HR0;have l1:=zE V;have l2:=zE Q;have t0:=(BT.out _ HW.out.2.1).cell 0;go_wp2_with fail
 with_reducible refine (Vs V HW.out (by omega) (by simp)).mono ?_
 rintro e w5 hw5;obtain ⟨k0,HWn,hbl⟩:=hw5;subst k0;have HW:=za HWn;clear HWn hbl;clear t0 hwv;have t1:=(BT.out _ HW.out.2.1).cell 1;go_wp2_with fail
 with_reducible refine (Vs Q HW.out (by omega) (by simp only [List.length_append,List.length_cons,List.length_nil];omega)).mono ?_
 rintro e w5 hw5;obtain ⟨k0,HWn,hbl⟩:=hw5;subst k0;have HW:=za HWn;clear HWn hbl;clear t1 hwq;have t2:=(BT.out _ HW.out.2.1).cell 2;go_wp2_with fail
 with_reducible refine (Vs mn HW.out (by omega) (by simp only [List.length_append,List.length_cons,List.length_nil];omega)).mono ?_
 rintro e w5 hw5;obtain ⟨k0,HWn,hbl⟩:=hw5;subst k0;have HW:=za HWn;clear HWn hbl;clear t2 hwm l1 l2;rw [<-HP0.out] at HW;clear HP0 HL0;have t2:=(BT.out _ HW.out.2.1).cell 2;go_wp2;clear t2;go_loopw [44] (fun kv wr=>∃ k:Nat,k<=mn/\kv=.int .i64 (k:Int)/\Hid (Wg g w1 (Za st k) wr)) (fun kv _=>mn-(intOf kv).toNat)
 case atStart=>exact ⟨0,Nat.zero_le _,rfl,HW⟩
 case round=>
  clear HW;obtain ⟨k,hk,rfl,HW⟩:=hrel;by_cases hlt:k<mn
  ·have d1:decide ((k:Int)<(mn:Int))=true:=(by simp;omega);have hki:(k:Int)<(mn:Int):=(by omega);obtain ⟨ad,m,rfl,hbk,hm,hat⟩:=Yk (H.out _ HW.out.2.1).st.marks hlt;have Hsu:=za (aeo hm);have hmk:=Hst.out.mkk m (List.mem_of_getElem? hm);have c0:=hat.c0;have c1:=hat.c1;obtain ⟨nm,of⟩:=m;simp only at hmk c0 c1 Hsu;have hwo:IntKind.u64.wrap of=((of.toNat:Nat):Int):=yv of (by omega) (by omega);have hof:of.toNat<18446744073709551616:=(by omega);have hnm:nm.size<=32:=hmk.1;have HLk:=za (show (Za st k).length<=1000 from Yn Hst.out.mkk Hst.out.many k);have BX:=za (Blk.new wr 90 #[.string nm,.int .i64 of]);have HW:=za (HW.out.on (bal (Below.refl wr.heap.size wr) (.cells #[.string nm,.int .i64 of] 90)));generalize of.toNat=ofn at *;clear hm hat hbk hmk;(go_wp2_with fail);clear c0 c1;generalize wr.alloc (.cells #[.string nm,.int .i64 of] 90)=W3 at *;(with_reducible refine (VW nm HW.out (by omega) (by have:=HLk.out;omega)).mono ?_);rintro e w5 hw5;obtain ⟨k0,HWn,hbl⟩:=hw5;subst k0;have HW:=za HWn;have BX:=za (hbl _ _ _ BX.out (by decide) (by decide));clear HWn hbl;have c1:=BX.out.cell 1;(go_wp2_with fail);have hll:(Za st k++yx nm).length<=1000000000:=by
    have:=HLk.out;have h3:=zE nm.size;have h4:=qb nm;rw [List.length_append,yx,List.length_append];omega
   (with_reducible refine (Vs ofn HW.out hof hll).mono ?_);rintro e w5 hw5;obtain ⟨k0,HWn,hbl⟩:=hw5;subst k0;have HW:=za HWn;clear HWn hbl;rw [<-Hsu.out] at HW;clear c1 hll;go_wp2;go_roundw;case rel=>exact ⟨k+1,by omega,by go_num,HW⟩
   case measure=>simp [intOf];omega
  have d1:decide ((k:Int)<(mn:Int))=false:=by simp;omega
  have HAll:=za (aam (s:=s) (st:=st) (k:=k) (by rw [Hml.out];omega));have HLk:=za (show (Za st k).length<=1000 from Yn Hst.out.mkk Hst.out.many k);have s0:=(BS.out _ HW.out.2.1).cell 0;have t0:=(BT.out _ HW.out.2.1).cell 0;have t1:=(BT.out _ HW.out.2.1).cell 1;have t3:=(BT.out _ HW.out.2.1).cell 3;have HBl:=za HW.out.2.1;go_wp2_with fail
  with_reducible refine (aix CA cn cc s.1 st.1 st.2.1 RA rn rc st.2.2.2.1 _ (H.out _ HBl.out).sch.cols (by have:=Hok.out.cn;simp only [maxLen];omega) (H.out _ HBl.out).st.rows Hok.out.rn (Hst.out.baok Hq9.out) Hok.out.it (HT2.out.on (HBw.out _ HBl.out))).mono ?_
  rintro e w7 ⟨hb,⟨-,Ab,cb,rfl,ho⟩ | ⟨h0,-⟩⟩;case inr=>exact absurd ((Us s.1 (st.1,st.2.1,st.2.2.2.1)).2 Hst.out.fits) h0
  have HW:=za (HW.out.on hb);have hel:=Hst.out.enc_le;have HEn:=za (ze ho);clear s0 t0 t1 t3 ho hb;generalize yN s.1 (st.1,st.2.1,st.2.2.2.1)=enc at *;have hconv:=zK (P:=Tryz.prog) w7 35 9 5 Tryz.underlying35 Tryz.underlying5 Tryz.underlying9 _ Ab enc.length cb enc HEn.out;have Htx:=za (show yx (⟨enc.toArray⟩:ByteArray)=ql enc from (JK enc).symm);have hes:(⟨enc.toArray⟩:ByteArray).size<=500000000:=by show enc.toArray.size<=_;rw [List.size_toArray];omega
  generalize (⟨enc.toArray⟩:ByteArray)=eb at *;generalize hel9:enc.length=en at *;go_wp2_with fail
  with_reducible refine (VW eb HW.out hes (by have:=HLk.out;omega)).mono ?_
  rintro e w5 hw5;obtain ⟨k0,HWn,hbl⟩:=hw5;subst k0;have HW:=za HWn;clear HWn hbl;rw [Htx.out] at HW;clear hconv HEn Htx hes;have HL:=za (H.out _ HW.out.2.1).st.last;have hconv:=zK (P:=Tryz.prog) w5 35 9 5 Tryz.underlying35 Tryz.underlying5 Tryz.underlying9 _ LA ln lc st.2.2.2.2 HL.out;have Htx:=za (show yx (⟨st.2.2.2.2.toArray⟩:ByteArray)=ql st.2.2.2.2 from (JK _).symm);have hes:(⟨st.2.2.2.2.toArray⟩:ByteArray).size<=500000000:=by show st.2.2.2.2.toArray.size<=_;rw [List.size_toArray];have:=Hst.out.last;omega
  generalize (⟨st.2.2.2.2.toArray⟩:ByteArray)=lb at *;have t4:=(BT.out _ HW.out.2.1).cell 4;have hnn:(Za st k++ql enc).length<=150000000:=by
   have:=HLk.out;have h3:=zE enc.length;rw [List.length_append,ql,List.length_append];omega
  go_wp2_with fail
  with_reducible refine (VW lb HW.out hes (by omega)).mono ?_
  rintro e w5 hw5;obtain ⟨k0,HWn,hbl⟩:=hw5;subst k0;have HW:=za HWn;clear HWn hbl;rw [Htx.out,HAll.out] at HW;clear hconv Htx hes t4 HL;have hib:(ZB s st).length<=1000000000:=by
   have:=HLk.out;have h3:=zE enc.length;have h4:=zE st.2.2.2.2.length;have h5:=Hst.out.last;rw [<-HAll.out,List.length_append,List.length_append,ql,ql,List.length_append,List.length_append];omega
  have HIA:=za (show ZB s st++yj (zZ (ZB s st))=ZV s st from rfl);have HLA:=za (show (ZB s st).length+4=(ZV s st).length by rw [Un]);clear HAll;generalize ZB s st=ib at *;go_wp2_with fail
  with_reducible refine (aej HW.out hib).mono ?_
  rintro e w9 ⟨A6,c6,rfl,ho,hb⟩;have HBf:=za (bon (HBw.out _ HW.out.2.1) hb);have HO:=za (zi ho (HBw.out _ HW.out.2.1).size);have HSum:=za (X6 A6 ib.length c6 ib w9 (ze ho) (by simp only [maxLen];omega) (HT2.out.on HBf.out).ctab);clear ho hb;generalize ib.length=il at *;generalize zZ ib=X at *;go_wp2_with fail
  with_reducible refine HSum.out.mono ?_
  rintro e w11 ⟨g4,rfl,ho,hb⟩;have HO4:=za ho;have HO:=za (zd HO.out hb);have HBf:=za (bon HBf.out hb);clear ho hb HSum;have hs1:il+4<=maxLen:=by simp only [maxLen];omega
  have hs2:(il+4)*1<=70368744177664:=by omega
  have hbs:=HBf.out.size;have hr4:=HO4.out
  go_wp2_with (at_builtin
               refine zb _ rfl (.tmp 85) (.tmp 87) 35 rfl w.heap.size 5 i0 (.int .u8 0) 1 1 Tryz.underlying35 hi0 hz0 hz1 hz2 rfl (by decide) A6 il c6 _ rfl HO.out (some ⟨g4,0,none⟩) 4 4 (u8s (yj X)) rfl hr4 (z6 _) hs1 hs2 hbs ?_;intro A8 c8 w12 r1 r2 r3 r4 r5;rw [<-zt] at r1;have R1:=za r1;have R2:=za (HBf.out.trans r2);clear r1 r2 r3 r4 r5 hr4)
  go_ret2;have R1:=R1.out;rw [HLA.out,HIA.out] at R1;rw [HLA.out];exact ⟨R2.out,.inl ⟨HE.out,A8,c8,rfl,R1⟩⟩
end
section
open Go.RowKit
def XR (a b:St):Bool:=decide (a.1=b.1)&&(decide (a.2.1=b.2.1)&&(decide (a.2.2.1=b.2.2.1)&&(decide (a.2.2.2.1=b.2.2.2.1)&&decide (a.2.2.2.2=b.2.2.2.2))))
theorem JJ (a b:St):XR a b=true ↔ a=b:=by
 obtain ⟨v,q,ms,l,la⟩:=a;obtain ⟨v',q',ms',l',la'⟩:=b;unfold XR;simp only [Bool.and_eq_true,decide_eq_true_eq,Prod.mk.injEq]
theorem YA (a:St):XR a a=true:=(JJ a a).2 rfl
theorem XN {v q v' q':Int} {ms ms':List Mk} {l l':List It} {la la':List UInt8} (h:¬(v=v'/\q=q'/\ms=ms'/\l=l'/\la=la')):XR (v,q,ms,l,la) (v',q',ms',l',la')=false:=by
 cases hb:XR (v,q,ms,l,la) (v',q',ms',l',la') with
 | false=>rfl
 | true=>exact absurd (by simpa only [Prod.mk.injEq] using (JJ _ _).1 hb) h
theorem UT (v q:Int) (MA:Option Addr) (mn mc:Nat) (RA:Option Addr) (rn rc:Nat) (LA:Option Addr) (ln lc:Nat) (ms:List Mk) (l:List It) (la:List UInt8) (v' q':Int) (MB:Option Addr) (mm md:Nat) (RB:Option Addr) (rm rd:Nat) (LB:Option Addr) (lm ld:Nat) (ms':List Mk) (l':List It) (la':List UInt8) (w:World) (h1:StAt w MA mn RA rn LA ln ms l la) (h2:StAt w MB mm RB rm LB lm ms' l' la') (hmn:mn<=maxLen) (hrn:rn<=maxLen) :
  Calls Tryz.prog 24 #[.agg #[.int .i64 v,.int .i64 q,.slice MA mn mc,.slice RA rn rc,.slice LA ln lc],.agg #[.int .i64 v',.int .i64 q',.slice MB mm md,.slice RB rm rd,.slice LB lm ld]] w fun e w'=>e=.returned (.bool (XR (v,q,ms,l,la) (v',q',ms',l',la')))/\Below w.heap.size w w':=by
 obtain ⟨W,hW1⟩:∃ W,(w.alloc (.cells #[.int .i64 v,.int .i64 q,.slice MA mn mc,.slice RA rn rc,.slice LA ln lc] 51)).alloc (.cells #[.int .i64 v',.int .i64 q',.slice MB mm md,.slice RB rm rd,.slice LB lm ld] 51)=W:=⟨_,rfl⟩;have H1:=za (show StAt W MA mn RA rn LA ln ms l la by rw [<-hW1];exact (h1.al _).al _);have H2:=za (show StAt W MB mm RB rm LB lm ms' l' la' by rw [<-hW1];exact (h2.al _).al _);have HB:=za (show Below w.heap.size w W by rw [<-hW1];exact bal (bal (Below.refl _ _) _) _);have BS:=za (show Blk W w.heap.size 51 #[.int .i64 v,.int .i64 q,.slice MA mn mc,.slice RA rn rc,.slice LA ln lc] by rw [<-hW1];exact (Blk.new w _ _).alloc _);have BT:=za (show Blk W (w.heap.size+1) 51 #[.int .i64 v',.int .i64 q',.slice MB mm md,.slice RB rm rd,.slice LB lm ld] by rw [<-hW1];exact Blk.new' _ _ _ _ (by simp));have Hmn:=za hmn;have Hrn:=za hrn;have Hl1:=za (qR h1.marks);have Hl2:=za (qR h2.marks);clear h1 h2 hmn hrn;have a0:=BS.out.cell 0;have a1:=BS.out.cell 1;have a2:=BS.out.cell 2;have a3:=BS.out.cell 3;have a4:=BS.out.cell 4;have b0:=BT.out.cell 0;have b1:=BT.out.cell 1;have b2:=BT.out.cell 2;have b3:=BT.out.cell 3;have b4:=BT.out.cell 4;by_cases hv:v=v'
 case neg=>
  have HN:=za (XN (q:=q) (q':=q') (ms:=ms) (ms':=ms') (l:=l) (l':=l') (la:=la) (la':=la') (fun h=>hv h.1));have e1:(v==v')=false:=by simpa using hv
  clear hv;go_enter Tryz.func24,Tryz.ntmps24;go_wp2;go_ret;exact ⟨by rw [HN.out];rfl,HB.out⟩
 subst hv;have e1:(v==v)=true:=by simp
 by_cases hq:q=q'
 case neg=>
  have HN:=za (XN (v:=v) (v':=v) (ms:=ms) (ms':=ms') (l:=l) (l':=l') (la:=la) (la':=la') (fun h=>hq h.2.1));have e2:(q==q')=false:=by simpa using hq
  clear hq;go_enter Tryz.func24,Tryz.ntmps24;go_wp2;go_ret;exact ⟨by rw [HN.out];rfl,HB.out⟩
 subst hq;have e2:(q==q)=true:=by simp
 go_enter Tryz.func24,Tryz.ntmps24;go_wp2_with fail
 try rw [hW1]
 clear hW1;with_reducible refine (ajc MA MB mn mc mm md ms ms' _ H1.out.marks H2.out.marks Hmn.out).mono ?_
 rintro e w1 ⟨rfl,hb⟩;have H1:=za (H1.out.on hb);have H2:=za (H2.out.on hb);have HB:=za (bon HB.out hb);have BS:=za (BS.out.on hb);have BT:=za (BT.out.on hb);clear a0 a1 a2 a3 a4 b0 b1 b2 b3 b4 hb;have a0:=BS.out.cell 0;have a1:=BS.out.cell 1;have a2:=BS.out.cell 2;have a3:=BS.out.cell 3;have a4:=BS.out.cell 4;have b0:=BT.out.cell 0;have b1:=BT.out.cell 1;have b2:=BT.out.cell 2;have b3:=BT.out.cell 3;have b4:=BT.out.cell 4;by_cases hm:ms=ms'
 case neg=>
  have HN:=za (XN (v:=v) (v':=v) (q:=q) (q':=q) (l:=l) (l':=l') (la:=la) (la':=la') (fun h=>hm h.2.2.1));rw [decide_eq_false hm];clear hm;go_wp2;go_ret;exact ⟨by rw [HN.out];rfl,HB.out⟩
 subst hm;rw [decide_eq_true (rfl:ms=ms)];go_wp2_with fail
 with_reducible refine (afl RA RB rn rc rm rd l l' _ H1.out.rows H2.out.rows Hrn.out).mono ?_
 rintro e w2 ⟨rfl,hb⟩;have H1:=za (H1.out.on hb);have H2:=za (H2.out.on hb);have HB:=za (bon HB.out hb);have BS:=za (BS.out.on hb);have BT:=za (BT.out.on hb);clear a0 a1 a2 a3 a4 b0 b1 b2 b3 b4 hb;have a0:=BS.out.cell 0;have a1:=BS.out.cell 1;have a2:=BS.out.cell 2;have a3:=BS.out.cell 3;have a4:=BS.out.cell 4;have b0:=BT.out.cell 0;have b1:=BT.out.cell 1;have b2:=BT.out.cell 2;have b3:=BT.out.cell 3;have b4:=BT.out.cell 4;by_cases hr:l=l'
 case neg=>
  have HN:=za (XN (v:=v) (v':=v) (q:=q) (q':=q) (ms:=ms) (ms':=ms) (la:=la) (la':=la') (fun h=>hr h.2.2.2.1));rw [decide_eq_false hr];clear hr;go_wp2;go_ret;exact ⟨by rw [HN.out];rfl,HB.out⟩
 subst hr;rw [decide_eq_true (rfl:l=l)];go_wp2_with fail
 with_reducible refine (Xw LA LB ln lc lm ld la la' _ H1.out.last H2.out.last).mono ?_
 rintro e w3 ⟨rfl,rfl⟩;by_cases hz:la=la'
 case neg=>
  have HN:=za (XN (v:=v) (v':=v) (q:=q) (q':=q) (ms:=ms) (ms':=ms) (l:=l) (l':=l) (fun h=>hz h.2.2.2.2));rw [show (la==la')=false by simpa using hz];clear hz;go_wp2;go_ret;exact ⟨by rw [HN.out];rfl,HB.out⟩
 subst hz;have HN:=za (YA (v,q,ms,l,la));rw [show (la==la)=true by simp];go_wp2;go_ret;exact ⟨by rw [HN.out];rfl,HB.out⟩
theorem akj (v q:Int) (MA:Option Addr) (mn mc:Nat) (RA:Option Addr) (rn rc:Nat) (LA:Option Addr) (ln lc:Nat) (ms:List Mk) (l:List It) (la:List UInt8) (v' q':Int) (MB:Option Addr) (mm md:Nat) (RB:Option Addr) (rm rd:Nat) (LB:Option Addr) (lm ld:Nat) (ms':List Mk) (l':List It) (la':List UInt8) (w:World) (h1:StAt w MA mn RA rn LA ln ms l la) (h2:StAt w MB mm RB rm LB lm ms' l' la') (hmn:mn<=maxLen) (hrn:rn<=maxLen) :
  Calls Tryz.prog 25 #[.agg #[.int .i64 v,.int .i64 q,.slice MA mn mc,.slice RA rn rc,.slice LA ln lc],.agg #[.int .i64 v',.int .i64 q',.slice MB mm md,.slice RB rm rd,.slice LB lm ld]] w fun e w'=>e=.returned (.bool (XR (v,q,ms,l,la) (v',q',ms',l',la')))/\Below w.heap.size w w':=by
 have hn63:mn<=9223372036854775807:=by simp only [maxLen] at hmn;omega
 obtain ⟨W,hW1⟩:∃ W,(w.alloc (.cells #[.int .i64 v,.int .i64 q,.slice MA mn mc,.slice RA rn rc,.slice LA ln lc] 51)).alloc (.cells #[.int .i64 v',.int .i64 q',.slice MB mm md,.slice RB rm rd,.slice LB lm ld] 51)=W:=⟨_,rfl⟩;have H1:=za (show StAt W MA mn RA rn LA ln ms l la by rw [<-hW1];exact (h1.al _).al _);have H2:=za (show StAt W MB mm RB rm LB lm ms' l' la' by rw [<-hW1];exact (h2.al _).al _);have HB:=za (show Below w.heap.size w W by rw [<-hW1];exact bal (bal (Below.refl _ _) _) _);have BS:=za (show Blk W w.heap.size 51 #[.int .i64 v,.int .i64 q,.slice MA mn mc,.slice RA rn rc,.slice LA ln lc] by rw [<-hW1];exact (Blk.new w _ _).alloc _);have BT:=za (show Blk W (w.heap.size+1) 51 #[.int .i64 v',.int .i64 q',.slice MB mm md,.slice RB rm rd,.slice LB lm ld] by rw [<-hW1];exact Blk.new' _ _ _ _ (by simp));have Hmn:=za hmn;have Hrn:=za hrn;have Hl1:=za (qR h1.marks);have Hl2:=za (qR h2.marks);clear h1 h2 hmn hrn;have a0:=BS.out.cell 0;have a1:=BS.out.cell 1;have a2:=BS.out.cell 2;have a3:=BS.out.cell 3;have a4:=BS.out.cell 4;have b0:=BT.out.cell 0;have b1:=BT.out.cell 1;have b2:=BT.out.cell 2;have b3:=BT.out.cell 3;have b4:=BT.out.cell 4;by_cases hv:v=v'
 case neg=>
  have HN:=za (XN (q:=q) (q':=q') (ms:=ms) (ms':=ms') (l:=l) (l':=l') (la:=la) (la':=la') (fun h=>hv h.1));have e1:(v != v')=true:=by simpa using hv
  clear hv;go_enter Tryz.func25,Tryz.ntmps25;go_wp2;go_ret;exact ⟨by rw [HN.out];rfl,HB.out⟩
 subst hv;have e1:(v != v)=false:=by simp
 by_cases hq:q=q'
 case neg=>
  have HN:=za (XN (v:=v) (v':=v) (ms:=ms) (ms':=ms') (l:=l) (l':=l') (la:=la) (la':=la') (fun h=>hq h.2.1));have e2:(q != q')=true:=by simpa using hq
  clear hq;go_enter Tryz.func25,Tryz.ntmps25;go_wp2;go_ret;exact ⟨by rw [HN.out];rfl,HB.out⟩
 subst hq;have e2:(q != q)=false:=by simp
 by_cases hlm:mm=mn
 case neg=>
  have HN:=za (XN (v:=v) (v':=v) (q:=q) (q':=q) (ms:=ms) (ms':=ms') (l:=l) (l':=l') (la:=la) (la':=la') (fun h=>hlm (by rw [<-Hl1.out,<-Hl2.out,h.2.2.1])));have e3:((mn:Int) != (mm:Int))=true:=by simp;omega
  have e4:(mn != mm)=true:=by simp;omega
  clear hlm;go_enter Tryz.func25,Tryz.ntmps25;go_wp2;go_ret;exact ⟨by rw [HN.out];rfl,HB.out⟩
 subst hlm;go_enter Tryz.func25,Tryz.ntmps25;go_wp2_with fail
 try rw [hW1]
 clear hW1;with_reducible refine (ac2 RA RB rn rc rm rd l l' _ H1.out.rows H2.out.rows Hrn.out).mono ?_
 rintro e w2 ⟨rfl,hb⟩;have H1:=za (H1.out.on hb);have H2:=za (H2.out.on hb);have HB:=za (bon HB.out hb);have BS:=za (BS.out.on hb);have BT:=za (BT.out.on hb);clear a0 a1 a2 a3 a4 b0 b1 b2 b3 b4 hb;have a0:=BS.out.cell 0;have a1:=BS.out.cell 1;have a2:=BS.out.cell 2;have a3:=BS.out.cell 3;have a4:=BS.out.cell 4;have b0:=BT.out.cell 0;have b1:=BT.out.cell 1;have b2:=BT.out.cell 2;have b3:=BT.out.cell 3;have b4:=BT.out.cell 4;by_cases hr:l=l'
 case neg=>
  have HN:=za (XN (v:=v) (v':=v) (q:=q) (q':=q) (ms:=ms) (ms':=ms') (la:=la) (la':=la') (fun h=>hr h.2.2.2.1));rw [decide_eq_false hr];clear hr;go_wp2;go_ret;exact ⟨by rw [HN.out];rfl,HB.out⟩
 subst hr;rw [decide_eq_true (rfl:l=l)];go_wp2_with fail
 with_reducible refine (Jc LA LB ln lc lm ld la la' _ H1.out.last H2.out.last).mono ?_
 rintro e w3 ⟨rfl,rfl⟩;by_cases hz:la=la'
 case neg=>
  have HN:=za (XN (v:=v) (v':=v) (q:=q) (q':=q) (ms:=ms) (ms':=ms') (l:=l) (l':=l) (fun h=>hz h.2.2.2.2));rw [show (la==la')=false by simpa using hz];clear hz;go_wp2;go_ret;exact ⟨by rw [HN.out];rfl,HB.out⟩
 subst hz;rw [show (la==la)=true by simp];go_wp2;clear a0 a1 a2 a3 a4 b0 b1 b2 b3 b4;have HB0:=za HB.out;clear HB;go_loopw [5] (fun i wr=>∃ j:Nat,j<=mm/\i=.int .i64 (j:Int)/\Hid (ms.take j=ms'.take j)/\Hid (Below w2.heap.size w2 wr)) (fun i _=>mm-(intOf i).toNat)
 case atStart=>exact ⟨0,Nat.zero_le _,rfl,za rfl,za (Below.refl _ _)⟩
 case round=>
  obtain ⟨j,hj,rfl,Htk,HB⟩:=hrel;have a2:=(BS.out.on HB.out).cell 2;have b2:=(BT.out.on HB.out).cell 2;by_cases hlt:j<mm
  ·have hji:(j:Int)<(mm:Int):=(by omega);obtain ⟨ad,x,rfl,hbk,hx,a⟩:=Yk (H1.out.on HB.out).marks hlt;obtain ⟨ad',y,rfl,hbk',hy,b⟩:=Yk (H2.out.on HB.out).marks hlt;have Hx:=za hx;have Hx':=za hy;have L0:=za (show ak1 wr (ad.add (j*2)) (.string x.1) from fun w' h=>(h.cell (World.block_lt_of_cell? _ _ a.c0)).trans a.c0);have L1:=za (show ak1 wr ⟨(ad.add (j*2)).block,(ad.add (j*2)).off+1,none⟩ (.int .i64 x.2) from fun w' h=>(h.cell (World.block_lt_of_cell? _ _ a.c1)).trans a.c1);have M0:=za (show ak1 wr (ad'.add (j*2)) (.string y.1) from fun w' h=>(h.cell (World.block_lt_of_cell? _ _ b.c0)).trans b.c0);have M1:=za (show ak1 wr ⟨(ad'.add (j*2)).block,(ad'.add (j*2)).off+1,none⟩ (.int .i64 y.2) from fun w' h=>(h.cell (World.block_lt_of_cell? _ _ b.c1)).trans b.c1);have A2:=za (show ak1 wr ⟨w.heap.size,2,none⟩ (.slice (some ad) mm mc) from fun w' h=>(h.cell (World.block_lt_of_cell? _ _ a2)).trans a2);have B2:=za (show ak1 wr ⟨w.heap.size+1,2,none⟩ (.slice (some ad') mm md) from fun w' h=>(h.cell (World.block_lt_of_cell? _ _ b2)).trans b2);clear hx hy hbk hbk' a b;obtain ⟨s,p⟩:=x;obtain ⟨t,q2⟩:=y;simp only at L0 L1 M0 M1;by_cases hc:((s,p):Mk)=(t,q2)
   ·have Htk2:=za (show ms.take (j+1)=ms'.take (j+1) by rw [List.take_add_one,List.take_add_one,Hx.out,Hx'.out,Htk.out,hc]);cases hc;go_wp2;clear a2 b2;have hS:=ak2 wr;refine hB wr [0,1,2,3,4,5,6,7,8,9,10] ?_;refine hP hS ?_;refine hP1 hS A2.out ?_;(iterate 2 refine hP hS ?_);refine hP2 hS L0.out L1.out ?_;refine hP hS ?_;refine hP1 hS B2.out ?_;(iterate 2 refine hP hS ?_);refine hP2 hS M0.out M1.out ?_;refine hP hS ?_;refine zc ?_;have HB:=za (bon HB.out hS);clear hS;go_wp2;go_roundw;case rel=>exact ⟨j+1,by omega,by go_num,Htk2,HB⟩
    case measure=>simp [intOf];omega
   have HN:=za (XN (v:=v) (v':=v) (q:=q) (q':=q) (l:=l) (l':=l) (la:=la) (la':=la) (ms:=ms) (ms':=ms') (fun h=>hc (by have h:=h.2.2.1;subst h;exact Option.some.inj (Hx.out.symm.trans Hx'.out))));have Hc:=za hc;clear hc;by_cases hst:s=t
   ·subst hst;have hpq:¬p=q2:=fun h=>Hc.out (by rw [h]);go_wp2;clear a2 b2;have hS:=ak2 wr;refine hB wr [0,1,2,3,4,5,6,7,8,9,10] ?_;refine hP hS ?_;refine hP1 hS A2.out ?_;(iterate 2 refine hP hS ?_);refine hP2 hS L0.out L1.out ?_;refine hP hS ?_;refine hP1 hS B2.out ?_;(iterate 2 refine hP hS ?_);refine hP2 hS M0.out M1.out ?_;refine hP hS ?_;refine zc ?_;go_wp2;go_ret;exact ⟨by rw [HN.out];rfl,bon (bon HB0.out HB.out) hS⟩
   have hst2:¬s.toList=t.toList:=fun h=>hst (by
    rw [Lib.toList_data,Lib.toList_data] at h;exact ByteArray.ext (Array.ext' h))
   go_wp2;clear a2 b2;have hS:=ak2 wr;refine hB wr [0,1,2,3,4,5,6,7,8,9,10] ?_;refine hP hS ?_;refine hP1 hS A2.out ?_;(iterate 2 refine hP hS ?_);refine hP2 hS L0.out L1.out ?_;refine hP hS ?_;refine hP1 hS B2.out ?_;(iterate 2 refine hP hS ?_);refine hP2 hS M0.out M1.out ?_;refine hP hS ?_;refine zc ?_;go_wp2;go_ret;exact ⟨by rw [HN.out];rfl,bon (bon HB0.out HB.out) hS⟩
  obtain rfl:mm=j:=by omega
  have He:=za (show ms=ms' by
   have:=Htk.out;rwa [List.take_of_length_le (by rw [Hl1.out];exact Nat.le_refl _),List.take_of_length_le (by rw [Hl2.out];exact Nat.le_refl _)] at this)
  go_wp2;go_ret;exact ⟨by rw [He.out,YA];rfl,bon HB0.out HB.out⟩
end
end Go.Proofs.YtjpjalmilfgckaaGreatDoor
