/- Part 14 of the walks. Conditions: each lemma states its own. -/
import Derived.Test.YtjpjalmilfgckaaGreatDoorZz13
import Derived.Test.YtjpjalmilfgckaaGreatDoorProg
import Derived.WalkKit
import Derived.LaidEql
import Derived.Stop.Asserts
import Derived.RowKitTokens
import Derived.Below
set_option maxRecDepth 100000
set_option maxHeartbeats 4000000
set_option linter.unusedVariables false
set_option linter.unusedSimpArgs false
namespace Go.Proofs.YtjpjalmilfgckaaGreatDoor
section
open Go.RowKit
theorem adr (A:Option Addr) (n c j k:Nat) (l:List It) (x y:It) (w:World) (hi:ItemsAt w w.heap.size A n l) (hj:j<n) (hk:k<n) (hx:l[j]? = some x) (hy:l[k]? = some y) :
  Calls Tryz.prog 232 #[.slice A n c,.int .i64 (j:Int),.int .i64 (k:Int)] w fun e w'=>e=.returned (.int .i64 (Zb x.1 y.1))/\Below w.heap.size w w':=by
 obtain ⟨ad,A',c',it,hA,hbk,hit,a0,a1,r1,rc1,rc2⟩:=hi.at_ hj;obtain ⟨ad',A'',c'',it',hA',hbk',hit',b0,b1,r2,-,-⟩:=hi.at_ hk;subst hA
 injection hA' with hA'
 subst hA';obtain rfl:x=it:=Option.some.inj (hx.symm.trans hit);obtain rfl:y=it':=Option.some.inj (hy.symm.trans hit');have LA:=za (show ak1 w (ad.add (j*2)) (.slice A' x.1.length c') from fun w' h=>(h.cell (World.block_lt_of_cell? _ _ a0)).trans a0);have LB:=za (show ak1 w (ad.add (k*2)) (.slice A'' y.1.length c'') from fun w' h=>(h.cell (World.block_lt_of_cell? _ _ b0)).trans b0);have R1:=za r1;have R2:=za r2;have Hm:=za (Nat.le_trans rc1 rc2);have hji:(j:Int)<(n:Int):=by omega
 have hki:(k:Int)<(n:Int):=by omega
 clear hi hx hy hit hit' hbk hbk' a0 a1 b0 b1 r1 r2 rc1 rc2;obtain ⟨x,vx⟩:=x;obtain ⟨y,vy⟩:=y;simp only at LA LB R1 R2 Hm ⊢;generalize x.length=xl at *;generalize y.length=yl at *;go_enter Tryz.func232,Tryz.ntmps232;go_wp2;have hS:=ak2 w;refine hB w [0,1,2,3,4,5,6,7,8,9,tt 10,11] ?_;iterate 4 refine hP hS ?_
 refine hP1 hS LA.out ?_;iterate 4 refine hP hS ?_
 refine hP1 hS LB.out ?_;refine hE fun K hK=>?_;go_simp;with_reducible refine (afE A' A'' xl c' yl c'' x y _ (R1.out.on hS) (R2.out.on hS) Hm.out).mono ?_
 rintro e w5 ⟨rfl,hb5⟩;refine hG hK (by exact bon hS hb5) fun hS=>?_;clear hK K;clear hb5;refine hP hS ?_;refine zc ?_;go_wp2;go_ret;exact ⟨rfl,hS⟩
def zsE (l:List It):Int:=if zsB l then 0 else 2
theorem abt {l:List It} (h:zsB l=true):zsE l=0:=by unfold zsE;rw [h];rfl
theorem Jv {l:List It} (h:zsB l=false):zsE l=2:=by unfold zsE;rw [h];rfl
theorem abU (p:Option It) {it:It} (h:it.2=0):zsF p it=false:=by unfold zsF;rw [decide_eq_false (by simp [h])];rfl
theorem abW {it:It} (h:it.2≠0):zsF none it=true:=by unfold zsF;rw [decide_eq_true h];rfl
theorem abV {p it:It} (h:it.2≠0):zsF (some p) it=decide (Zb p.1 it.1<0):=by unfold zsF;rw [decide_eq_true h];rfl
theorem adu (A:Option Addr) (n c:Nat) (l:List It) (w:World) (hi:ItemsAt w w.heap.size A n l) (hn:n<=maxLen) :
  Calls Tryz.prog 180 #[.slice A n c] w fun e w'=>e=.returned (.int .i64 (zsE l))/\Below w.heap.size w w':=by
 have Hi:=za hi;have hl:=hi.len;have hn63:n<=9223372036854775807:=by simp only [maxLen] at hn;omega
 clear hi hn;go_enter Tryz.func180,Tryz.ntmps180;go_wp2;go_loopw [7] (fun kv wr=>∃ k:Nat,k<=n/\kv=.int .i64 (k:Int)/\Hid (zsB l=zn zsF (zu l k) (l.drop k))/\Hid (Below w.heap.size w wr)) (fun kv _=>n-(intOf kv).toNat)
 case atStart=>exact ⟨0,Nat.zero_le _,rfl,za rfl,za (Below.refl _ _)⟩
 case round=>
  obtain ⟨k,hk,rfl,HR,HB⟩:=hrel;by_cases hlt:k<n
  ·have d1:decide ((k:Int)<(n:Int))=true:=(by simp;omega);obtain ⟨ad,A',c',it,rfl,hbk,hit,a0,a1,r1,rc1,rc2⟩:=(Hi.out.below HB.out).at_ hlt;have HS:=za (show zsB l=(zsF (zu l k) it&&zn zsF (zu l (k+1)) (l.drop (k+1))) by rw [HR.out,qI zsF hit]);have Hit:=za hit;have HL:=za (bal HB.out (.cells #[.slice A' it.1.length c',.int .i64 it.2] 26));clear hbk hit r1 rc1 rc2 HR;by_cases hz:it.2=0
   ·have HN:=za (show zsB l=false by rw [HS.out,abU _ hz];rfl);have e1:(it.2==0)=true:=(by simpa using hz);clear hz;generalize it.2=vt at *;generalize it.1.length=rl at *;go_wp2;go_ret;exact ⟨by rw [Jv HN.out];rfl,HL.out⟩
   have e1:(it.2==0)=false:=(by simpa using hz);by_cases hk0:k=0
   ·have HN:=za (show zsB l=zn zsF (zu l (k+1)) (l.drop (k+1)) by rw [HS.out,show zu l k=none by rw [hk0];rfl,abW hz];rfl);have e2:decide (0<(k:Int))=false:=(by simp;omega);have hk1:¬0<k:=(by omega);clear hz hk0;generalize it.2=vt at *;generalize it.1.length=rl at *;go_wp2;go_roundw;case rel=>exact ⟨k+1,by omega,by go_num,HN,HL⟩
    case measure=>simp [intOf];omega
   obtain ⟨j,hj⟩:∃ j,k=j+1:=⟨k-1,by omega⟩;obtain ⟨itp,hitp⟩:∃ itp,l[j]? = some itp:=⟨_,List.getElem?_eq_getElem (by omega)⟩;obtain ⟨q,hq⟩:∃ q,Zb itp.1 it.1=q:=⟨_,rfl⟩
   have HN:=za (show zsB l=(decide (q<0)&&zn zsF (zu l (k+1)) (l.drop (k+1))) by
    rw [HS.out,show zu l k=some itp by rw [hj];exact hitp,abV hz,hq])
   have HK:=za (adr (some ad) n c j k l itp it (wr.alloc (.cells #[.slice A' it.1.length c',.int .i64 it.2] 26)) (Hi.out.on HL.out) (by omega) hlt hitp Hit.out);rw [hq] at HK;have hj2:(k:Int)-1=(j:Int):=(by omega);have e2:decide (0<(k:Int))=true:=(by simp;omega);have hk1:0<k:=(by omega);clear hz hitp hq HS Hit hj hk0;generalize it.2=vt at *;generalize it.1.length=rl at *;(go_wp2_with fail);(with_reducible refine HK.out.mono ?_);rintro e w5 ⟨rfl,hb5⟩;have HL:=za (bon HL.out hb5);clear hb5 HK;by_cases hq0:q<0
   ·have e3:decide (0<=q)=false:=(by simp;omega);have hq1:¬0<=q:=(by omega);have HN:=za (show zsB l=zn zsF (zu l (k+1)) (l.drop (k+1)) by rw [HN.out,decide_eq_true hq0];rfl);go_wp2;go_roundw;case rel=>exact ⟨k+1,by omega,by go_num,HN,HL⟩
    case measure=>simp [intOf];omega
   have e3:decide (0<=q)=true:=(by simp;omega);have hq1:0<=q:=(by omega);have HN:=za (show zsB l=false by rw [HN.out,decide_eq_false hq0];rfl);go_wp2;go_ret;exact ⟨by rw [Jv HN.out];rfl,HL.out⟩
  have d1:decide ((k:Int)<(n:Int))=false:=by simp;omega
  have HN:=za (show zsB l=true by rw [HR.out,ZE zsF (by omega)]);go_wp2;go_ret;exact ⟨by rw [abt HN.out];rfl,HB.out⟩
theorem acb (A:Option Addr) (n c:Nat) (l:List It) (w:World) (hi:ItemsAt w w.heap.size A n l) (hn:n<=maxLen) :
  Calls Tryz.prog 121 #[.slice A n c] w fun e w'=>e=.returned (.int .i64 (zsE l))/\Below w.heap.size w w':=by
 have Hi:=za hi;have hl:=hi.len;have hn63:n<=9223372036854775807:=by simp only [maxLen] at hn;omega
 clear hi hn;go_enter Tryz.func121,Tryz.ntmps121;go_wp2;go_loopw [3] (fun kv wr=>∃ k:Nat,k<=n/\kv=.int .i64 (k:Int)/\Hid (zsB l=zn zsF (zu l k) (l.drop k))/\Hid (Below w.heap.size w wr)) (fun kv _=>n-(intOf kv).toNat)
 case atStart=>exact ⟨0,Nat.zero_le _,rfl,za rfl,za (Below.refl _ _)⟩
 case round=>
  obtain ⟨k,hk,rfl,HR,HB⟩:=hrel;by_cases hlt:k<n
  ·have d1:decide ((k:Int)<(n:Int))=true:=(by simp;omega);have hkn:(k:Int)<(n:Int):=(by omega);obtain ⟨ad,A',c',it,rfl,hbk,hit,a0,a1,r1,rc1,rc2⟩:=(Hi.out.below HB.out).at_ hlt;have HS:=za (show zsB l=(zsF (zu l k) it&&zn zsF (zu l (k+1)) (l.drop (k+1))) by rw [HR.out,qI zsF hit]);have LW:=za (show ak1 wr ⟨(ad.add (k*2)).block,(ad.add (k*2)).off+1,none⟩ (.int .i64 it.2) from fun w' h=>(h.cell (World.block_lt_of_cell? _ _ a1)).trans a1);have LR:=za (show ak1 wr (ad.add (k*2)) (.slice A' it.1.length c') from fun w' h=>(h.cell (World.block_lt_of_cell? _ _ a0)).trans a0);have R1:=za (r1.more HB.out.size);clear HR a0 a1 r1;by_cases hz:it.2=0
   ·have HN:=za (show zsB l=false by rw [HS.out,abU _ hz];rfl);have e1:(it.2==0)=true:=(by simpa using hz);clear hz;generalize it.2=vt at *;generalize it.1.length=rl at *;clear hit rc1 rc2 hbk R1;go_wp2;have hS:=ak2 wr;refine hB wr [0,1,2,3,4,5,6,7,8,9,10,11,12,13,14,15,16,17,18,19,20,21,22,23,24] ?_;(iterate 4 refine hP hS ?_);refine hP1 hS LW.out ?_;(iterate 2 refine hP hS ?_);(iterate 17 refine hO hS ?_);refine hP hS ?_;refine zc ?_;go_wp2;go_ret;exact ⟨by rw [Jv HN.out];rfl,bon HB.out hS⟩
   have e1:(it.2==0)=false:=(by simpa using hz);by_cases hk0:k=0
   ·have HN:=za (show zsB l=zn zsF (zu l (k+1)) (l.drop (k+1)) by rw [HS.out,show zu l k=none by rw [hk0];rfl,abW hz];rfl);have e2:decide (0<(k:Int))=false:=(by simp;omega);have hk1:¬0<k:=(by omega);clear hz hk0 HS;generalize it.2=vt at *;generalize it.1.length=rl at *;clear hit rc1 rc2 hbk R1;go_wp2;have hS:=ak2 wr;refine hB wr [0,1,2,3,4,5,6,7,8,9,10,11,12,13,14,15,16,17,18,19,20,21,22,23,24] ?_;(iterate 4 refine hP hS ?_);refine hP1 hS LW.out ?_;(iterate 5 refine hP hS ?_);(iterate 13 refine hO hS ?_);(iterate 2 refine hP hS ?_);refine zc ?_;have HL:=za (bon HB.out hS);go_wp2;go_roundw;case rel=>exact ⟨k+1,by omega,by go_num,HN,HL⟩
    case measure=>simp [intOf];omega
   obtain ⟨j,hj⟩:∃ j,k=j+1:=⟨k-1,by omega⟩;obtain ⟨ad',A'',c'',itp,hA',-,hitp,b0,-,r2,rd1,rd2⟩:=(Hi.out.below HB.out).at_ (k:=j) (by omega)
   injection hA' with hA'
   subst hA';obtain ⟨q,hq⟩:∃ q,Zb itp.1 it.1=q:=⟨_,rfl⟩
   have HN:=za (show zsB l=(decide (q<0)&&zn zsF (zu l (k+1)) (l.drop (k+1))) by
    rw [HS.out,show zu l k=some itp by rw [hj];exact hitp,abV hz,hq])
   have LP:=za (show ak1 wr (ad.add (j*2)) (.slice A'' itp.1.length c'') from fun w' h=>(h.cell (World.block_lt_of_cell? _ _ b0)).trans b0);have R2:=za (r2.more HB.out.size);have HQ:=za hq;have Hm2:=za (Nat.le_trans rd1 rd2);have Hjw:=za (show IntKind.i64.wrap ((k:Int)-1)=(j:Int) by simp only [IntKind.wrap,IntKind.signed,IntKind.bits];simp;omega);have hjn:(j:Int)<(n:Int):=(by omega);have e2:decide (0<(k:Int))=true:=(by simp;omega);have hk1:0<k:=(by omega);clear hz hitp hq HS hj hk0 b0 r2 rd1 rd2 hit rc1 rc2 hbk;obtain ⟨x,vt⟩:=it;obtain ⟨y,vp⟩:=itp;simp only at *;generalize x.length=xl at *;generalize y.length=yl at *;go_wp2;have hS:=ak2 wr;refine hB wr [0,1,2,3,4,5,6,7,8,9,10,11,12,13,14,15,16,17,18,19,20,tt 21,22,23,24] ?_;(iterate 4 refine hP hS ?_);refine hP1 hS LW.out ?_;(iterate 8 refine hP hS ?_);rw [Hjw.out];(iterate 2 refine hP hS ?_);refine hP1 hS LP.out ?_;(iterate 4 refine hP hS ?_);refine hP1 hS LR.out ?_;refine hE fun K hK=>?_;go_simp;(with_reducible refine (adI A'' A' yl c'' xl c' y x _ (R2.out.on hS) (R1.out.on hS) Hm2.out).mono ?_);rintro e w5 ⟨rfl,hb5⟩;rw [HQ.out];refine hG hK (by exact bon hS hb5) fun hS=>?_;clear hK K;clear hb5;(iterate 3 refine hP hS ?_);refine zc ?_;have HL:=za (bon HB.out hS);clear hS LW LP LR R1 R2;by_cases hq0:q<0
   ·have e3:decide (0<=q)=false:=(by simp;omega);have hq1:¬0<=q:=(by omega);have HN:=za (show zsB l=zn zsF (zu l (k+1)) (l.drop (k+1)) by rw [HN.out,decide_eq_true hq0];rfl);go_wp2;go_roundw;case rel=>exact ⟨k+1,by omega,by go_num,HN,HL⟩
    case measure=>simp [intOf];omega
   have e3:decide (0<=q)=true:=(by simp;omega);have hq1:0<=q:=(by omega);have HN:=za (show zsB l=false by rw [HN.out,decide_eq_false hq0];rfl);go_wp2;go_ret;exact ⟨by rw [Jv HN.out];rfl,HL.out⟩
  have d1:decide ((k:Int)<(n:Int))=false:=by simp;omega
  have HN:=za (show zsB l=true by rw [HR.out,ZE zsF (by omega)]);go_wp2;go_ret;exact ⟨by rw [abt HN.out];rfl,HB.out⟩
end
section
open Go.RowKit
theorem ahu {cs:List Co} {r:List Cl} {v:Int} (h:v≠1):Yj cs (r,v)=false:=by unfold Yj;rw [decide_eq_false h];rfl
theorem ahv {cs:List Co} {r:List Cl}:Yj cs (r,1)=(qm cs r==0):=by unfold Yj;simp
theorem age (g:Nat) (A:Option Addr) (n c:Nat) (cs:List Co) (B:Option Addr) (m d:Nat) (r:List Cl) (v:Int) (w:World) (hg:w.cell? ⟨g,0,none⟩=some (.slice A n c)) (hgl:g<w.heap.size) (hr:Reads w w.heap.size 7 A n (cos cs)) (hr2:Reads w w.heap.size 3 B m (cls r)) (hm:m<=maxLen) (hT:Tabs w) :
  Calls Tryz.prog 178 #[.agg #[.slice B m d,.int .i64 v],.pointer (some ⟨g,0,none⟩)] w fun e w'=>e=.returned (.bool (!Yj cs (r,v)))/\Below w.heap.size w w':=by
 obtain ⟨W,hW⟩:∃ W,W=w.alloc (.cells #[.slice B m d,.int .i64 v] 26):=⟨_,rfl⟩;have hb1:Below w.heap.size w W:=by rw [hW];exact bal (Below.refl _ _) _
 have HX:=za (show Blk W w.heap.size 26 #[.slice B m d,.int .i64 v] by rw [hW];exact Blk.new w _ _);have hg:=(hb1.cell (p:=⟨g,0,none⟩) hgl).trans hg;have h0:=HX.out.cell 0;have h1:=HX.out.cell 1;have HA:=za (acq A n c cs B m d r W (hr.on hb1) (hr2.on hb1) hm (hT.on hb1));have Hb1:=za hb1;have HW:=za hW;clear hr hr2 hT hgl hb1;by_cases h:v=1
 ·subst h;rw [ahv];go_enter Tryz.func178,Tryz.ntmps178;rw [hW] at hg h0 h1;clear hW;go_wp2_with fail
  rw [<-HW.out];with_reducible refine HA.out.mono ?_
  rintro e w5 ⟨rfl,hb5⟩;have HB:=za (bon Hb1.out hb5);clear hb5 hg h0 h1 HA;go_wp2;go_ret;exact ⟨rfl,HB.out⟩
 rw [ahu h];have e1:(v != 1)=true:=by simpa using h
 clear h;go_enter Tryz.func178,Tryz.ntmps178;rw [hW] at hg h0 h1;clear hW;go_wp2;go_ret;rw [<-HW.out];exact ⟨rfl,Hb1.out⟩
theorem acP (g:Nat) (A:Option Addr) (n c:Nat) (cs:List Co) (B:Option Addr) (m d:Nat) (l:List It) (w:World) (hg:w.cell? ⟨g,0,none⟩=some (.slice A n c)) (hgl:g<w.heap.size) (hr:Reads w w.heap.size 7 A n (cos cs)) (hi:ItemsAt w w.heap.size B m l) (hm:m<=maxLen) (hT:Tabs w) :
  Calls Tryz.prog 231 #[.slice B m d,.func (.func 178) #[] #[.pointer (some ⟨g,0,none⟩)]] w fun e w'=>(∃ r:Int,e=.returned (.int .i64 r)/\(!decide (0<=r))=l.all (Yj cs))/\Below w.heap.size w w':=by
 have Hr:=za hr;have Hi:=za hi;have HT:=za hT;have HG:=za hg;have Hl:=za hi.len;have hn63:m<=9223372036854775807:=by simp only [maxLen] at hm;omega
 have hin:=zm Tryz.func178 (by kernel_rfl) (by kernel_rfl);clear hr hi hT hg hm;go_enter Tryz.func231,Tryz.ntmps231;go_wp2;go_loopw [8] (fun i wr=>∃ k:Nat,k<=m/\i=.int .i64 (k:Int)/\Hid (∀ j c,j<k->l[j]? = some c->Yj cs c=true)/\Hid (Below w.heap.size w wr)) (fun i _=>m-(intOf i).toNat)
 case atStart=>exact ⟨0,Nat.zero_le _,rfl,za (fun j c h=>by omega),za (Below.refl _ _)⟩
 case round=>
  obtain ⟨k,hk,rfl,HN,HB⟩:=hrel;by_cases hlt:k<m
  ·obtain ⟨ad,A',c',it,rfl,hbk,hit,a0,a1,r1,rc1,rc2⟩:=(Hi.out.on HB.out).at_ hlt;have Hit:=za hit;have R1:=za r1;have Hm:=za (Nat.le_trans rc1 rc2);have hki:(k:Int)<(m:Int):=(by omega);clear hit hbk r1 rc1 rc2;obtain ⟨r,v⟩:=it;simp only at a0 a1 R1 Hm;generalize r.length=rl at *;(go_wp2_with fail);(with_reducible refine (age g A n c cs A' rl c' r v _ ((HB.out.cell (p:=⟨g,0,none⟩) hgl).trans HG.out) (Nat.lt_of_lt_of_le hgl HB.out.size) (Hr.out.on HB.out) R1.out Hm.out (HT.out.on HB.out)).mono ?_);rintro e w1 ⟨rfl,hb1⟩;have HB2:=za (bon HB.out hb1);clear hb1 a0 a1;cases hm:Yj cs (r,v) with
   | true=>
    have HN2:=za (show ∀ j c,j<k+1->l[j]? = some c->Yj cs c=true from fun j c hj hc=>by
     rcases Nat.lt_or_ge j k with h | h
     ·exact HN.out j c h hc
     obtain rfl:j=k:=(by omega);rw [Hit.out] at hc;cases hc;exact hm)
    clear hm;go_wp2;go_roundw;case rel=>exact ⟨k+1,by omega,by go_num,HN2,HB2⟩
    case measure=>simp [intOf];omega
   | false=>
    have HE:=za (show (!decide (0<=(k:Int)))=l.all (Yj cs) by
     have h1:l.all (Yj cs)=false:=by
      rw [List.all_eq_false];exact ⟨_,List.mem_of_getElem? Hit.out,by simp [hm]⟩
     rw [h1];simp)
    clear hm;go_wp2;go_ret;exact ⟨⟨_,rfl,HE.out⟩,HB2.out⟩
  obtain rfl:k=m:=by omega
  have HE:=za (show (!decide (0<=(-1:Int)))=l.all (Yj cs) by
   have h1:l.all (Yj cs)=true:=by
    rw [List.all_eq_true];intro c hc;obtain ⟨j,hj⟩:=List.getElem?_of_mem hc;exact HN.out j c (by have:=(List.getElem?_eq_some_iff.1 hj).1;rw [Hl.out] at this;exact this) hj
   rw [h1];rfl)
  go_wp2;go_ret;exact ⟨⟨_,rfl,HE.out⟩,HB.out⟩
theorem aem (g:Nat) (A:Option Addr) (n c:Nat) (cs:List Co) (B:Option Addr) (m d:Nat) (l:List It) (w:World) (hg:w.cell? ⟨g,0,none⟩=some (.slice A n c)) (hgl:g<w.heap.size) (hr:Reads w w.heap.size 7 A n (cos cs)) (hi:ItemsAt w w.heap.size B m l) (hm:m<=maxLen) (hT:Tabs w) :
  Calls Tryz.prog 179 #[.slice B m d,.func (.func 178) #[] #[.pointer (some ⟨g,0,none⟩)]] w fun e w'=>e=.returned (.bool (!l.all (Yj cs)))/\Below w.heap.size w w':=by
 have HA:=za (acP g A n c cs B m d l w hg hgl hr hi hm hT);clear hg hgl hr hi hm hT;go_enter Tryz.func179,Tryz.ntmps179;go_wp2_with fail
 with_reducible refine HA.out.mono ?_
 rintro e w1 ⟨⟨r,rfl,he⟩,hb1⟩;have HB:=za hb1;have HE:=za he;clear hb1 he HA;go_wp2;go_ret;exact ⟨by rw [<-HE.out,Bool.not_not];rfl,HB.out⟩
theorem Z8 (A:Option Addr) (n c:Nat) (cs:List Co) (B:Option Addr) (m d:Nat) (l:List It) (w:World) (hr:Reads w w.heap.size 7 A n (cos cs)) (hi:ItemsAt w w.heap.size B m l) (hm:m<=maxLen) (hT:Tabs w) :
  Calls Tryz.prog 126 #[.slice A n c,.slice B m d] w fun e w'=>e=.returned (.bool (qN cs l))/\Below w.heap.size w w':=by
 have hl:=hi.len;have Hi:=za hi;have HT:=za hT;have Hr:=za hr;have Hm:=za hm;have HB0:=za (bal (Below.refl w.heap.size w) (.cells #[.slice A n c] 32));have HX:=za (Blk.new w 32 #[.slice A n c]);clear hi hT hr hm;by_cases h16:m<=4096
 ·have e1:decide ((m:Int)<=4096)=true:=by simp;omega
  have h16i:(m:Int)<=4096:=by omega
  have HE:=za (show qN cs l=(l.all (Yj cs)&&zsB l) by unfold qN;rw [decide_eq_true (show l.length<=4096 by omega)];rfl);go_enter Tryz.func126,Tryz.ntmps126;go_wp2_with fail
  generalize hW:w.alloc (.cells #[.slice A n c] 32)=W at *;with_reducible refine (aem w.heap.size A n c cs B m d l _ (HX.out.cell 0) HX.out.lt (Hr.out.on HB0.out) (Hi.out.on HB0.out) Hm.out (HT.out.on HB0.out)).mono ?_
  rintro e w1 ⟨rfl,hb1⟩;have HB:=za (bon HB0.out hb1);clear hb1;cases hq:l.all (Yj cs) with
  | false=>
   have HE:=za (show qN cs l=false by rw [HE.out,hq];rfl);clear hq;go_wp2;go_ret;exact ⟨by rw [HE.out];rfl,HB.out⟩
  | true=>
   have HE:=za (show qN cs l=zsB l by rw [HE.out,hq];rfl);clear hq;(go_wp2_with fail);(with_reducible refine (adu B m d l _ (Hi.out.on HB.out) Hm.out).mono ?_);rintro e w2 ⟨rfl,hb2⟩;have HB:=za (bon HB.out hb2);clear hb2;cases hz:zsB l with
   | true=>
    rw [abt hz];have HE:=za (show qN cs l=true by rw [HE.out,hz]);clear hz;go_wp2;go_ret;exact ⟨by rw [HE.out];rfl,HB.out⟩
   | false=>
    rw [Jv hz];have HE:=za (show qN cs l=false by rw [HE.out,hz]);clear hz;go_wp2;go_ret;exact ⟨by rw [HE.out];rfl,HB.out⟩
 have e1:decide ((m:Int)<=4096)=false:=by simp;omega
 have HE:=za (show qN cs l=false by unfold qN;rw [decide_eq_false (show ¬l.length<=4096 by omega)];rfl);go_enter Tryz.func126,Tryz.ntmps126;go_wp2;go_ret;exact ⟨by rw [HE.out];rfl,HB0.out⟩
end
section
open Go.RowKit
theorem ack {lo hi x:Int} (p:Option Int) (h:x<lo\/hi<x):qZ lo hi p x=false:=by
 unfold qZ;rw [decide_eq_false (by omega)];rfl
theorem adQ {lo hi x:Int} (h:¬x<lo/\¬hi<x):qZ lo hi none x=true:=by
 unfold qZ;rw [decide_eq_true (by omega)];rfl
theorem adP {lo hi x p:Int} (h:¬x<lo/\¬hi<x):qZ lo hi (some p) x=decide (p<x):=by
 unfold qZ;rw [decide_eq_true (by omega)];simp
theorem aaW (A:Option Addr) (n c:Nat) (l:List Int) (lo hi:Int) (w:World) (hr:Reads w w.heap.size 1 A n (ins l)) (hn:n<=maxLen) :
  Calls Tryz.prog 131 #[.slice A n c,.int .i64 lo,.int .i64 hi] w fun e w'=>e=.returned (.bool (yE lo hi l))/\w=w':=by
 have Hr:=za hr;have hl:=ZU hr;have hn63:n<=9223372036854775807:=by simp only [maxLen] at hn;omega
 clear hr hn;go_enter Tryz.func131,Tryz.ntmps131;go_wp2;go_loopw [11] (fun kv wr=>∃ k:Nat,k<=n/\kv=.int .i64 (k:Int)/\wr=w/\Hid (yE lo hi l=zn (qZ lo hi) (zu l k) (l.drop k))) (fun kv _=>n-(intOf kv).toNat)
 case atStart=>exact ⟨0,Nat.zero_le _,rfl,rfl,za rfl⟩
 case round=>
  obtain ⟨k,hk,rfl,rfl,HR⟩:=hrel;by_cases hlt:k<n
  ·have d1:decide ((k:Int)<(n:Int))=true:=(by simp;omega);have hkn:(k:Int)<(n:Int):=(by omega);obtain ⟨ad,x,hA,hbk,hx,c0⟩:=X8 Hr.out hlt;subst hA;have HS:=za (show yE lo hi l=(qZ lo hi (zu l k) x&&zn (qZ lo hi) (zu l (k+1)) (l.drop (k+1))) by rw [HR.out,qI _ hx]);clear HR hbk;by_cases h1:x<lo
   ·have e1:decide (x<lo)=true:=(by simpa using h1);have HN:=za (show yE lo hi l=false by rw [HS.out,ack _ (.inl h1)];rfl);clear hx;go_wp2;go_ret;exact ⟨by rw [HN.out];rfl,rfl⟩
   have e1:decide (x<lo)=false:=(by simpa using h1);by_cases h2:hi<x
   ·have e2:decide (hi<x)=true:=(by simpa using h2);have HN:=za (show yE lo hi l=false by rw [HS.out,ack _ (.inr h2)];rfl);clear hx;go_wp2;go_ret;exact ⟨by rw [HN.out];rfl,rfl⟩
   have e2:decide (hi<x)=false:=(by simpa using h2);by_cases hk0:k=0
   ·have e3:decide (0<(k:Int))=false:=(by simp;omega);have hk1:¬0<k:=(by omega);have HN:=za (show yE lo hi l=zn (qZ lo hi) (zu l (k+1)) (l.drop (k+1)) by rw [HS.out,show zu l k=none by rw [hk0];rfl,adQ ⟨h1,h2⟩];rfl);clear hx hk0;go_wp2;go_roundw;case rel=>exact ⟨k+1,by omega,by go_num,by trivial,HN⟩
    case measure=>simp [intOf];omega
   obtain ⟨j,hj⟩:∃ j,k=j+1:=⟨k-1,by omega⟩;obtain ⟨ad',p,hA',-,hp,p0⟩:=X8 Hr.out (k:=j) (by omega)
   injection hA' with hA'
   subst hA';have HN:=za (show yE lo hi l=(decide (p<x)&&zn (qZ lo hi) (zu l (k+1)) (l.drop (k+1))) by rw [HS.out,show zu l k=some p by rw [hj];exact hp,adP ⟨h1,h2⟩]);have hj2:(k:Int)-1=(j:Int):=(by omega);have hjn:(j:Int)<(n:Int):=(by omega);have e3:decide (0<(k:Int))=true:=(by simp;omega);have hk1:0<k:=(by omega);clear hx hp hj hk0 HS;by_cases h3:p<x
   ·have e4:decide (x<=p)=false:=(by simp;omega);have h4:¬x<=p:=(by omega);have HN:=za (show yE lo hi l=zn (qZ lo hi) (zu l (k+1)) (l.drop (k+1)) by rw [HN.out,decide_eq_true h3];rfl);go_wp2;go_roundw;case rel=>exact ⟨k+1,by omega,by go_num,by trivial,HN⟩
    case measure=>simp [intOf];omega
   have e4:decide (x<=p)=true:=(by simp;omega);have h4:x<=p:=(by omega);have HN:=za (show yE lo hi l=false by rw [HN.out,decide_eq_false h3];rfl);go_wp2;go_ret;exact ⟨by rw [HN.out];rfl,rfl⟩
  have d1:decide ((k:Int)<(n:Int))=false:=by simp;omega
  have HN:=za (show yE lo hi l=true by rw [HR.out,ZE _ (by omega)]);go_wp2;go_ret;exact ⟨by rw [HN.out];rfl,rfl⟩
end
section
open Go.RowKit Go.Deep Go.ChangeShapes Go.WideShapes Go.Shelf Go.Lib
theorem aaG {H:Type} {enc:TypeId×Value->H} {P:Program} {w:World} {held:Bool} {sp:Nat->Bool} {base:Nat} {ts:TypeId} {fs:Array Field} {fuel:Nat} {cs:List Value} {x:DataW H×List MemPlace} (hs:P.underlying ts=some (.struct fs))
  (h:DataW.trod enc P w base sp held fuel ts cs=some x):∃ n,cs.length=P.cellsOf ts/\∀ (i:Nat) (f:Field),fs[i]? = some f->∃ y,DataW.trod enc P w base sp held n f.type ((cs.drop f.offset).take (P.cellsOf f.type))=some y:=by
 obtain ⟨xs,n,_,rfl,hcl,hxl,hf⟩:=DataW.trod_struct hs h;refine ⟨n,hcl,fun i f hi=>?_⟩;have g:=hf i f hi;have hlt:i<fs.size:=(Array.getElem?_eq_some_iff.1 hi).1;rw [List.getElem?_eq_getElem (by omega)] at g;exact ⟨_,g⟩
theorem ajt {H:Type} {enc:TypeId×Value->H} {w:World} {held:Bool} {n:Nat} {cs:List Value} {y:DataW H×List MemPlace} (hy:DataW.trod enc Tryz.prog w 0 (fun _=>true) held n 23 cs=some y) :
  ∃ c:Cl,cs=[.bool c.1,.int .i64 c.2.1,.string c.2.2] /\ -9223372036854775808<=c.2.1/\c.2.1<=9223372036854775807/\c.2.2.size<=maxLen:=by
 obtain ⟨m,hl,hc⟩:=yH Tryz.underlying23 (by kernel_rfl) (by kernel_rfl) hy
 match cs,hl with
 | [v0,v1,v2],_=>
  obtain ⟨y0,g0⟩:=hc 0 _ _ rfl rfl;obtain ⟨y1,g1⟩:=hc 1 _ _ rfl rfl;obtain ⟨y2,g2⟩:=hc 2 _ _ rfl rfl;obtain ⟨u,e0,-⟩:=DataW.trod_bool Tryz.underlying4 g0;obtain ⟨k,e1,_,b1⟩:=DataW.trod_int Tryz.underlying2 g1;obtain ⟨s,e2,_,b2⟩:=DataW.trod_string Tryz.underlying9 g2;cases e0;cases e1;cases e2;exact ⟨(u,k,s),rfl,(zR b1).1,(zR b1).2,b2⟩
theorem ahE {H:Type} {enc:TypeId×Value->H} {w:World} {held:Bool} {n:Nat} {cs:List Value} {y:DataW H×List MemPlace} (hy:DataW.trod enc Tryz.prog w 0 (fun _=>true) held n 43 cs=some y) :
  ∃ (k:Int) (nl:Bool),cs=[.int .i64 k,.bool nl] /\ -9223372036854775808<=k/\k<=9223372036854775807:=by
 obtain ⟨m,hl,hc⟩:=yH Tryz.underlying43 (by kernel_rfl) (by kernel_rfl) hy
 match cs,hl with
 | [v0,v1],_=>
  obtain ⟨y0,g0⟩:=hc 0 _ _ rfl rfl;obtain ⟨y1,g1⟩:=hc 1 _ _ rfl rfl;obtain ⟨k,e0,_,b0⟩:=DataW.trod_int Tryz.underlying3 g0;obtain ⟨u,e1,-⟩:=DataW.trod_bool Tryz.underlying4 g1;cases e0;cases e1;exact ⟨k,u,rfl,(zR b0).1,(zR b0).2⟩
def ak0 (l:List Co):Prop:=∀ c∈l,-9223372036854775808<=c.2.2.1/\c.2.2.1<=9223372036854775807
theorem ahH {H:Type} {enc:TypeId×Value->H} {w:World} {held:Bool} {a:Option Addr} {len cap:Nat} {d:DataW H} {p:List MemPlace} (h:DataW.Trod enc Tryz.prog w 0 (fun _=>true) held 27 (.slice a len cap) d p) :
  ∃ l:List It,ItemsAt w w.heap.size a len l/\len<=cap/\cap<=maxLen/\ItOk l:=by
 haveI:Inhabited (Hd×It):=⟨(none,0,0),[],0⟩
 obtain ⟨xs,h1,h2,h3,h4⟩:=Zp 2 (fun q:Hd×It=>itV q.1 q.2) (fun q=>(Reads w w.heap.size 3 q.1.1 q.1.2.1 (cls q.2.1)/\q.1.2.1<=q.1.2.2/\q.1.2.2<=maxLen)/\VE q.2.1 /\ -9223372036854775808<=q.2.2/\q.2.2<=9223372036854775807) (by decide) (fun _=>rfl)
  Tryz.underlying27 (by kernel_rfl) (fun n cs y hy=>by
   obtain ⟨m,hl,hc⟩:=yH Tryz.underlying26 (by kernel_rfl) (by kernel_rfl) hy
   match cs,hl with
   | [v0,v1],_=>
    obtain ⟨y0,g0⟩:=hc 0 _ _ rfl rfl;obtain ⟨y1,g1⟩:=hc 1 _ _ rfl rfl;obtain ⟨k,e1,_,b1⟩:=DataW.trod_int Tryz.underlying2 g1;rcases open_slice Tryz.underlying24 g0 with ⟨e0,-⟩ | ⟨ad,l,c,-,-,-,-,e0,-⟩
    ·cases e0;cases e1;obtain ⟨r,r1,r2,r3,r4⟩:=adi (a:=none) (len:=0) (cap:=0) ⟨m,g0⟩;exact ⟨((none,0,0),r,k),rfl,⟨r1,r2,r3⟩,r4,(zR b1).1,(zR b1).2⟩
    cases e0;cases e1;obtain ⟨r,r1,r2,r3,r4⟩:=adi (a:=some ad) (len:=l) (cap:=c) ⟨m,g0⟩;exact ⟨((some ad,l,c),r,k),rfl,⟨r1,r2,r3⟩,r4,(zR b1).1,(zR b1).2⟩) h
 have hz:(xs.map (·.1)).zip (xs.map (·.2))=xs:=by
  rw [List.zip_map'];simp
 refine ⟨xs.map (·.2),⟨xs.map (·.1),?_,by simp,fun j g it hg hi=>?_⟩,h2,h3,fun it hit=>?_⟩
 ·unfold its;rw [hz];exact h1
 ·rw [List.getElem?_map] at hg hi;cases hx:xs[j]? with
  | none=>rw [hx] at hg;cases hg
  | some q=>
   rw [hx] at hg hi;cases hg;cases hi;exact (h4 q (List.mem_of_getElem? hx)).1
 obtain ⟨q,hq,rfl⟩:=List.mem_map.1 hit;exact (h4 q hq).2
end
section
open Go.RowKit
structure ScOk (s:Sc):Prop where
 kind:ak0 s.1
 num:∀ c∈s.1,K9 c.2.2.2.2.2.1
 name:∀ c∈s.1,c.2.1.size<=maxLen
 str:∀ c∈s.1,c.2.2.2.2.2.2.size<=maxLen
theorem aba (l:List ByteArray) (x y:ByteArray):Ul x (l++[y])=(Ul x l||decide (y=x)):=by simp [Ul]
theorem acy (l:List ByteArray) (x:ByteArray):qU (l++[x])=(qU l && !Ul x l):=by
 induction l with
 | nil=>simp [qU,Ul]
 | cons y l ih=>
  simp only [List.cons_append,qU,ih,aba];have e:Ul x (y::l)=(decide (y=x)||Ul x l):=rfl;rw [e,show decide (x=y)=decide (y=x) from by congr 1;exact propext ⟨Eq.symm,Eq.symm⟩];cases decide (y=x)<;>cases Ul y l<;>cases qU l<;>cases Ul x l<;>rfl
structure SchK (w:World) (CA:Option Addr) (cn cc:Nat) (KA:Option Addr) (kn kc:Nat) (s:Sc) (k:Nat) (A:Option Addr) (c m:Nat) (f:ByteArray->Option Int) (wr:World):Prop where
 below:Below w.heap.size w wr
 box:Blk wr w.heap.size 48 #[.slice CA cn cc,.slice KA kn kc]
 ids:wr.ownsRow w.heap.size 3 1 (.slice A k c) k (ins ((s.1.take k).map (·.1)))
 mp:aiH wr (w.heap.size+1) k m f
 fs:∀ r,(f r).isSome=Ul r ((s.1.take k).map (·.2.1))
 fv:∀ r x,f r=some x->0<=x/\x<=(k:Int)
 mk_:m<=k/\(m=k ↔ qU ((s.1.take k).map (·.2.1))=true)
 col:s.1.all Zt=(s.1.drop k).all Zt
section
variable {w wr w':World} {CA KA A:Option Addr} {cn cc kn kc k c m:Nat} {s:Sc} {f:ByteArray->Option Int}
theorem SchK.on (h:SchK w CA cn cc KA kn kc s k A c m f wr) (hb:Below wr.heap.size wr w'):SchK w CA cn cc KA kn kc s k A c m f w':=
 ⟨bon h.below hb,h.box.on hb,zd h.ids hb,h.mp.on hb,h.fs,h.fv,h.mk_,h.col⟩
end
theorem SchK.step {w w3 w5 w6:World} {CA KA A A3:Option Addr} {cn cc kn kc k c c3 m:Nat} {s:Sc} {f:ByteArray->Option Int} (h:SchK w CA cn cc KA kn kc s k A c m f w3) {co:Co} (hco:s.1[k]? = some co)
  (hcol:s.1.all Zt=(s.1.drop (k+1)).all Zt) (hb:Below w.heap.size w w5) (hx:Blk w5 w.heap.size 48 #[.slice CA cn cc,.slice KA kn kc])
  (ho:w5.ownsRow w.heap.size 3 1 (.slice A3 (k+1) c3) (k+1) (ins ((s.1.take k).map (·.1))++ins [co.1])) (hm5:aiH w5 (w.heap.size+1) k m f) {y:Option Int} (hy:f co.2.1=y)
  (hm6:aiH w6 (w.heap.size+1) (k+1) (if (f co.2.1).isSome then m else m+1) (fun r=>if r=co.2.1 then some (y.getD 0+1) else f r)) (hg6:w5.grownBy w6 (some (w.heap.size+1))) :
  SchK w CA cn cc KA kn kc s (k+1) A3 c3 (if (f co.2.1).isSome then m else m+1) (fun r=>if r=co.2.1 then some (y.getD 0+1) else f r) w6:=by
 have e1:(s.1.take (k+1)).map (·.1)=(s.1.take k).map (·.1)++[co.1]:=by rw [List.take_add_one,hco];simp
 have e2:(s.1.take (k+1)).map (·.2.1)=(s.1.take k).map (·.2.1)++[co.2.1]:=by rw [List.take_add_one,hco];simp
 have hyv:0<=y.getD 0/\y.getD 0<=(k:Int):=by
  cases y with
  | none=>simp
  | some y=>exact h.fv _ y hy
 refine ⟨hb.grown hg6 hb.size (fun j e=>by cases e;omega),(hg6.block _ hx.lt (fun e=>by injection e;omega)).trans hx,?_,hm6,fun r=>?_,fun r x hr=>?_,?_,hcol⟩
 ·rw [e1];have:=Xi hm5 ho hg6;rwa [<-show ins ((s.1.take k).map (·.1)++[co.1])=ins ((s.1.take k).map (·.1))++ins [co.1] from by simp [ins]] at this
 ·rw [e2,aba,<-h.fs r];by_cases hr:r=co.2.1
  ·simp [hr]
  have hr2:¬co.2.1=r:=fun h=>hr h.symm;simp [hr,hr2]
 ·by_cases hr2:r=co.2.1
  ·simp only [hr2,if_true,Option.some.injEq] at hr;omega
  simp only [hr2,if_false] at hr;have:=h.fv r x hr;omega
 rw [e2,acy,<-h.fs];obtain ⟨h1,h2⟩:=h.mk_;cases (f co.2.1).isSome with
 | true=>simp;omega
 | false=>
  simp only [Bool.false_eq_true,if_false,Bool.not_false,Bool.and_true];exact ⟨by omega,⟨fun h=>h2.1 (by omega),fun h=>by have:=h2.2 h;omega⟩⟩
theorem afD (g:Nat) (CA:Option Addr) (cn cc:Nat) (kv:Value) (cs:List Co) (x:Int) (w:World) (hB:Blk w g 48 #[.slice CA cn cc,kv]) (hr:Reads w w.heap.size 7 CA cn (cos cs)) (h0:0<=x) (h1:x<(cn:Int)) :
  Calls Tryz.prog 133 #[.int .i64 x,.pointer (some ⟨g,0,none⟩)] w fun e w'=>e=.returned (.bool (!ZS cs x))/\w=w':=by
 obtain ⟨k,rfl⟩:∃ k:Nat,x=(k:Int):=⟨x.toNat,by omega⟩;have hk:k<cn:=by omega
 obtain ⟨ad,co,rfl,hbk,hco,hat⟩:=yP hr hk;have c0:=hB.cell 0;have c3:=hat.c3;have HK:=za (show ZS cs (k:Int) = !co.2.2.2.1 by unfold ZS;rw [Int.toNat_natCast,hco]);clear hB hr hbk hco hat h0;generalize co.2.2.2.1=nl at *;go_enter Tryz.func133,Tryz.ntmps133;go_wp2;go_ret;exact ⟨by rw [HK.out];simp,rfl⟩
theorem ahS (g:Nat) (CA:Option Addr) (cn cc:Nat) (kv:Value) (cs:List Co) (KA:Option Addr) (kn kc:Nat) (ks:List Int) (w:World) (hB:Blk w g 48 #[.slice CA cn cc,kv]) (hr:Reads w w.heap.size 7 CA cn (cos cs)) (hkr:Reads w w.heap.size 1 KA kn (ins ks)) (hkn:kn<=maxLen)
  (hin0:∀ x∈ks,0<=x/\x<(cn:Int)) :
  Calls Tryz.prog 132 #[.slice KA kn kc,.func (.func 133) #[] #[.pointer (some ⟨g,0,none⟩)]] w fun e w'=>e=.returned (.bool (!ks.all (ZS cs)))/\w=w':=by
 have key:Calls Tryz.prog 184 #[.slice KA kn kc,.func (.func 133) #[] #[.pointer (some ⟨g,0,none⟩)]] w fun e w'=>(∃ r:Int,e=.returned (.int .i64 r)/\decide (0<=r) = !ks.all (ZS cs))/\w=w':=by
  have Hr:=za hr;have HB:=za hB;have Hk:=za hkr;have Hin:=za hin0;have hl:=ZU hkr;have hn63:kn<=9223372036854775807:=by simp only [maxLen] at hkn;omega
  have hin:=zm Tryz.func133 (by kernel_rfl) (by kernel_rfl);clear hr hB hkr hin0 hkn;go_enter Tryz.func184,Tryz.ntmps184;go_wp2;go_loopw [8] (fun i wr=>∃ k:Nat,k<=kn/\i=.int .i64 (k:Int)/\wr=w/\Hid (ks.all (ZS cs)=(ks.drop k).all (ZS cs))) (fun i _=>kn-(intOf i).toNat)
  case atStart=>exact ⟨0,Nat.zero_le _,rfl,rfl,za rfl⟩
  case round=>
   obtain ⟨k,hk,rfl,rfl,HN⟩:=hrel;by_cases hlt:k<kn
   ·obtain ⟨ad,x,rfl,hbk,hx,c0⟩:=X8 Hk.out hlt;have hki:(k:Int)<(kn:Int):=(by omega);have hxx:=Hin.out x (List.mem_of_getElem? hx);have HS:=za (show ks.all (ZS cs)=(ZS cs x&&(ks.drop (k+1)).all (ZS cs)) by rw [HN.out,Vx hx,List.all_cons]);have HK:=za (afD g CA cn cc kv cs x wr HB.out Hr.out hxx.1 hxx.2);clear hbk hx HN hxx;(go_wp2_with fail);(with_reducible refine HK.out.mono ?_);rintro e w1 ⟨rfl,rfl⟩;clear HK;cases hq:ZS cs x with
    | true=>
     have HN:=za (show ks.all (ZS cs)=(ks.drop (k+1)).all (ZS cs) by rw [HS.out,hq];rfl);clear HS hq;go_wp2;go_roundw;case rel=>exact ⟨k+1,by omega,by go_num,by trivial,HN⟩
     case measure=>simp [intOf];omega
    | false=>
     have HN:=za (show ks.all (ZS cs)=false by rw [HS.out,hq];rfl);clear HS hq;go_wp2;go_ret;exact ⟨⟨k,rfl,by rw [HN.out];simp⟩,rfl⟩
   have hki:¬(k:Int)<(kn:Int):=(by omega);have HE:=za (show ks.all (ZS cs)=true by rw [HN.out,List.drop_of_length_le (by omega)];rfl);go_wp2;go_ret;exact ⟨⟨-1,rfl,by rw [HE.out];rfl⟩,rfl⟩
 go_enter Tryz.func132,Tryz.ntmps132;go_wp2_with fail
 with_reducible refine key.mono ?_
 rintro e w1 ⟨⟨r,rfl,hr2⟩,rfl⟩;have HR2:=za hr2;clear hr2 key;go_wp2;go_ret;exact ⟨by rw [<-HR2.out];rfl,rfl⟩
theorem zL {s:Sc} (h:z8 s=false):aca s=2:=by unfold aca;rw [h];rfl
theorem XQ {s:Sc} (h:z8 s=true):aca s=0:=by unfold aca;rw [h];rfl
theorem acj {lo hi:Int} {l:List Int} (h:yE lo hi l=true):∀ x∈l,lo<=x/\x<=hi:=by
 intro x hx;obtain ⟨q,hq⟩:=Vf h x hx;unfold qZ at hq;simp only [Bool.and_eq_true,decide_eq_true_eq] at hq;exact hq.1
theorem qT (CA:Option Addr) (cn cc:Nat) (KA:Option Addr) (kn kc:Nat) (s:Sc) (w:World) (h:ScAt w CA cn KA kn s) (hcn:cn<=1000000) (hkn:kn<=1000000) (hok:ScOk s) (hT:Tabs w) :
  Calls Tryz.prog 77 #[.agg #[.slice CA cn cc,.slice KA kn kc]] w fun e w'=>e=.returned (.int .i64 (aca s))/\Below w.heap.size w w':=by
 obtain ⟨j0,hj0,hy0,hy1,hy2⟩:=info_parts X7;have H0:=za h;have HT:=za hT;have Hok:=za hok;have Hkn:=za hkn;have hcl:=zU h.cols;have hkl:=ZU h.keys;have hcn63:cn<=9223372036854775807:=by omega
 have hkn63:kn<=9223372036854775807:=by omega
 have Hcn:=za hcn;clear h hT hok hkn hcn
 have HS:=za (show SchK w CA cn cc KA kn kc s 0 none 0 0 (fun _=>none) ((w.alloc (.cells #[.slice CA cn cc,.slice KA kn kc] 48)).alloc (.map #[] 0)) from
  ⟨bal (bal (Below.refl _ _) _) _, (Blk.new _ _ _).alloc _, World.ownsRow_nil _ _ _ _, by
   have:=MapS.made (P:=Tryz.prog) (k:=9) (e:=3) (w.alloc (.cells #[.slice CA cn cc,.slice KA kn kc] 48));rwa [show (w.alloc (.cells #[.slice CA cn cc,.slice KA kn kc] 48)).heap.size=w.heap.size+1 by simp] at this,fun r=>rfl,fun r x h=>(by cases h),⟨Nat.le_refl _,by simp [qU]⟩,rfl⟩)
 have hbx:=HS.out.box.cell 0;have hmm := @run_makeMap Tryz.prog;go_enter Tryz.func77,Tryz.ntmps77;go_wp2;clear hmm;generalize (w.alloc (.cells #[.slice CA cn cc,.slice KA kn kc] 48)).alloc (.map #[] 0)=W at *;clear hbx;go_loopw [3,12] (fun iv kv wr=>∃ (k:Nat) (A:Option Addr) (c m:Nat) (f:ByteArray->Option Int),k<=cn/\kv=.int .i64 (k:Int)/\iv=.slice A k c/\Hid (SchK w CA cn cc KA kn kc s k A c m f wr)) (fun _ kv _=>cn-(intOf kv).toNat)
 case atStart=>exact ⟨0,none,0,0,fun _=>none,Nat.zero_le _,rfl,rfl,HS⟩
 case round=>
  clear HS;obtain ⟨k,A,c,m,f,hk,rfl,rfl,HS⟩:=hrel;by_cases hlt:k<cn
  ·have d1:decide ((k:Int)<(cn:Int))=true:=(by simp;omega);have hki:(k:Int)<(cn:Int):=(by omega);obtain ⟨ad,co,rfl,hbk,hco,hat⟩:=yP (H0.out.cols.below HS.out.below) hlt;have hmem:=List.mem_of_getElem? hco;have hnm:=Hok.out.name co hmem;have HD:=za (show s.1.all Zt=(Zt co&&(s.1.drop (k+1)).all Zt) by rw [HS.out.col,Vx hco,List.all_cons]);have Hco:=za hco;obtain ⟨i,nm,kd,nl,u,x,t⟩:=co;have h0:=hat.c0;have h1:=hat.c1;have h2:=hat.c2;have h3:=hat.c3;have h4:=hat.c4;have h5:=hat.c5;have h6:=hat.c6;simp only at h0 h1 h2 h3 h4 h5 h6 hnm;have HB:=za (Blk.new wr 45 #[.int .i64 i,.string nm,.int .i64 kd,.bool nl,.bool u,.int .i64 x,.string t]);have HS1:=za (HS.out.on (bal (Below.refl _ _) (.cells #[.int .i64 i,.string nm,.int .i64 kd,.bool nl,.bool u,.int .i64 x,.string t] 45)));clear hco hat hmem HS;(go_wp2_with fail);clear h0 h1 h2 h3 h4 h5 h6 hbk;obtain ⟨gc,hgc⟩:∃ gc,gc=wr.heap.size:=⟨_,rfl⟩;rw [<-hgc] at HB ⊢;clear hgc;generalize wr.alloc (.cells #[.int .i64 i,.string nm,.int .i64 kd,.bool nl,.bool u,.int .i64 x,.string t] 45)=W1 at *;(with_reducible refine (Xn nm _ hnm).mono ?_);rintro e w2 ⟨rfl,hb2⟩;have HS:=za (HS1.out.on hb2);have HB:=za (HB.out.on hb2);clear hb2 HS1;cases hq:qa nm with
   | false=>
    have HN:=za (show z8 s=false by
     unfold z8;rw [HD.out,show Zt (i,nm,kd,nl,u,x,t)=false by unfold Zt;rw [hq];rfl];rfl)
    clear HD hq;go_wp2;go_ret;exact ⟨by rw [zL HN.out];rfl,HS.out.below⟩
   | true=>
    have b0:=HB.out.cell 0;have b1:=HB.out.cell 1;have b2:=HB.out.cell 2;have b3:=HB.out.cell 3;have b4:=HB.out.cell 4;have b5:=HB.out.cell 5;have b6:=HB.out.cell 6;(go_wp2_with fail);(with_reducible refine (Xv kd nl u x t _ (HT.out.on HS.out.below)).mono ?_);rintro e w3 ⟨rfl,hb3⟩;have HS:=za (HS.out.on hb3);have HB:=za (HB.out.on hb3);clear hb3 b0 b1 b2 b3 b4 b5 b6;by_cases hz:zw kd nl (u,x,t)=0
    ·have HN:=za (show s.1.all Zt=(s.1.drop (k+1)).all Zt by
      rw [HD.out,show Zt (i,nm,kd,nl,u,x,t)=true by unfold Zt;rw [hq,hz];rfl];rfl)
     generalize zw kd nl (u,x,t)=E0 at hz ⊢;subst hz;have b0:=HB.out.cell 0;have b1:=HB.out.cell 1;have hs1:k+1<=maxLen:=(by have:=Hcn.out;simp only [maxLen];omega);have hs2:(k+1)*8<=70368744177664:=(by have:=Hcn.out;omega);have hs3:k<maxLen:=(by omega);have hszz:=HS.out.below.size;obtain ⟨y,hy⟩:∃ y,f nm=y:=⟨_,rfl⟩;have hyv:0<=y.getD 0/\y.getD 0<=(k:Int):=by
      cases y with
      | none=>simp
      | some y=>exact HS.out.fv nm y hy
     have hyw:(Lit.int .i64 (y.getD 0+1)).wf=true:=(by simp [Lit.wf,IntKind.min,IntKind.max,IntKind.signed,IntKind.bits];omega);have hyi:wrap64 (y.getD 0+1)=y.getD 0+1:=(by unfold wrap64;omega);have Hy:=za hy;have HR:=za (show Reads _ _ 1 (some ⟨_,0,none⟩) 1 (ins [i]) from zq w3 (.int .i64 i) 3);have Hmap:=za (HS.out.mp.al (.cells #[.int .i64 i] 3));clear hq HD hy
     go_wp2_with (first
      | (at_builtin
         refine zb _ rfl (.tmp 28) (.tmp 31) 28 rfl w.heap.size 3 j0 (.int .i64 0) 1 8 Tryz.underlying28 hj0 hy0 hy1 hy2 rfl (by decide) A k c _ rfl (HS.out.ids.alloc _) (some ⟨_,0,none⟩) 1 1 (ins [i]) rfl HR.out (Zw _ _) hs1 hs2 (by simp;omega) ?_;intro A3 c3 w5 r1 r2 r3 r4 r5;have Hg5:=za r3;have Ho5:=za r1;have Hb5:=za r2;have HB5:=za ((HB.out.alloc (.cells #[.int .i64 i] 3)).apart (HS.out.ids.alloc _) (by decide) r3);have Hx5:=za ((HS.out.box.alloc (.cells #[.int .i64 i] 3)).apart (HS.out.ids.alloc _) (by decide) r3);have Hm5:=za (Hmap.out.grown r3 (Hmap.out.apart (HS.out.ids.alloc _)));have b1:=HB5.out.cell 1;clear r1 r2 r3 r4 r5)
      | (at_lookup;refine y7 rfl _ _ _ rfl Hm5.out Tryz.underlying3 Tryz.underlying9 Tryz.underlying170 (qn _) nm hnm _ Hy.out rfl rfl ?_)
      | (at_mapUpdate
         refine yr rfl _ _ _ _ rfl Hm5.out Tryz.underlying3 Tryz.underlying9 Tryz.underlying170 hs3 nm hnm _ hyw rfl rfl rfl ?_;intro w6 hm6 hg6))
     have HS:=za (HS.out.step Hco.out HN.out ((HS.out.below.alloc hszz (.cells #[.int .i64 i] 3)).trans Hb5.out) Hx5.out Ho5.out Hm5.out Hy.out hm6 hg6);clear hm6 hg6 Hm5 Hx5 HB5 Ho5 Hg5 Hb5 Hmap HR HB HN;go_roundw;case rel=>exact ⟨k+1,A3,c3,_,_,by omega,by go_num,rfl,HS⟩
     case measure=>simp [intOf];omega
    have HN:=za (show z8 s=false by
     unfold z8;rw [HD.out,show Zt (i,nm,kd,nl,u,x,t)=false by unfold Zt;rw [hq];simp [hz]];rfl)
    have e9:(zw kd nl (u,x,t) != 0)=true:=(by simpa using hz);clear HD hq hz;generalize zw kd nl (u,x,t)=E0 at *;go_wp2;go_ret;exact ⟨by rw [zL HN.out];rfl,HS.out.below⟩
  have d1:decide ((k:Int)<(cn:Int))=false:=by simp;omega
  obtain rfl:k=cn:=by omega
  have hcol:s.1.all Zt=true:=by rw [HS.out.col,List.drop_of_length_le (by omega)];rfl
  have htk:s.1.take k=s.1:=List.take_of_length_le (by omega);have hnd:=HS.out.mk_;rw [htk] at hnd;have hids:=HS.out.ids;rw [htk] at hids;have Hids:=za (ze hids)
  have hB:=za (show z8 s=(decide (1<=k/\k<=32)&&qU (s.1.map (·.2.1))&&yE 1 1048576 (s.1.map (·.1))&&decide (kn<=8)&&yE 0 ((k:Int)-1) s.2&&s.2.all (ZS s.1)) by
   unfold z8;rw [hcol,hcl,hkl,Bool.true_and])
  clear hids hcol htk hk;have c0:=HS.out.box.cell 0;have c1:=HS.out.box.cell 1;have hml:=HS.out.mp.len_ Tryz.underlying170 3;have Hnd:=za hnd;clear hnd;by_cases q1:k<1
  ·have e1:decide ((k:Int)<1)=true:=(by simp;omega);have HN:=za (show z8 s=false by rw [hB.out,decide_eq_false (by omega)];rfl);go_wp2;go_ret;exact ⟨by rw [zL HN.out];rfl,HS.out.below⟩
  have e1:decide ((k:Int)<1)=false:=by simp;omega
  by_cases q2:32<k
  ·have e2:decide (32<(k:Int))=true:=(by simp;omega);have HN:=za (show z8 s=false by rw [hB.out,decide_eq_false (by omega)];rfl);go_wp2;go_ret;exact ⟨by rw [zL HN.out];rfl,HS.out.below⟩
  have e2:decide (32<(k:Int))=false:=by simp;omega
  by_cases q3:m=k
  ·subst q3;have e3:((m:Int) != (m:Int))=false:=(by simp);have hnB:=Hnd.out.2.1 rfl;have hB2:=za (show z8 s=(yE 1 1048576 (s.1.map (·.1))&&decide (kn<=8)&&yE 0 ((m:Int)-1) s.2&&s.2.all (ZS s.1)) by rw [hB.out,decide_eq_true (by omega),hnB];simp);clear hB Hnd hnB;(go_wp2_with fail);(with_reducible refine (aaW A m c (s.1.map (·.1)) 1 1048576 _ Hids.out (by have:=Hcn.out;simp only [maxLen];omega)).mono ?_);rintro e w5 ⟨rfl,rfl⟩;cases q4:yE 1 1048576 (s.1.map (·.1)) with
   | false=>
    have HN:=za (show z8 s=false by rw [hB2.out,q4];rfl);clear q4 hB2;go_wp2;go_ret;exact ⟨by rw [zL HN.out];rfl,HS.out.below⟩
   | true=>
    by_cases q5:8<kn
    ·have e5:decide (8<(kn:Int))=true:=(by simp;omega);have HN:=za (show z8 s=false by rw [hB2.out,q4,decide_eq_false (by omega)];rfl);clear q4 hB2;go_wp2;go_ret;exact ⟨by rw [zL HN.out];rfl,HS.out.below⟩
    have e5:decide (8<(kn:Int))=false:=(by simp;omega);have hB3:=za (show z8 s=(yE 0 ((m:Int)-1) s.2&&s.2.all (ZS s.1)) by rw [hB2.out,q4,decide_eq_true (by omega)];simp);clear q4 hB2;(go_wp2_with fail);(with_reducible refine (aaW KA kn kc s.2 0 ((m:Int)-1) _ (H0.out.keys.on HS.out.below) (by have:=Hkn.out;simp only [maxLen];omega)).mono ?_);rintro e w6 ⟨rfl,rfl⟩;cases q6:yE 0 ((m:Int)-1) s.2 with
    | false=>
     have HN:=za (show z8 s=false by rw [hB3.out,q6];rfl);clear q6 hB3;go_wp2;go_ret;exact ⟨by rw [zL HN.out];rfl,HS.out.below⟩
    | true=>
     have hB4:=za (show z8 s=s.2.all (ZS s.1) by rw [hB3.out,q6];simp)
     have Hri:=za (show ∀ x∈s.2,0<=x/\x<(m:Int) from fun x hx=>by
      have:=acj q6 x hx;omega)
     clear q6 hB3;(go_wp2_with fail);(with_reducible refine (ahS w.heap.size CA m cc (.slice KA kn kc) s.1 KA kn kc s.2 _ HS.out.box (H0.out.cols.on HS.out.below) (H0.out.keys.on HS.out.below) (by have:=Hkn.out;simp only [maxLen];omega) Hri.out).mono ?_);rintro e w7 ⟨rfl,rfl⟩;cases q7:s.2.all (ZS s.1) with
     | false=>
      have HN:=za (show z8 s=false by rw [hB4.out,q7]);clear q7 hB4;go_wp2;go_ret;exact ⟨by rw [zL HN.out];rfl,HS.out.below⟩
     | true=>
      have HN:=za (show z8 s=true by rw [hB4.out,q7]);clear q7 hB4;go_wp2;go_ret;exact ⟨by rw [XQ HN.out];rfl,HS.out.below⟩
  have e3:((m:Int) != (k:Int))=true:=by simp;omega
  have HN:=za (show z8 s=false by
   have:qU (s.1.map (·.2.1))=false:=by
    cases h:qU (s.1.map (·.2.1)) with
    | false=>rfl
    | true=>exact absurd (Hnd.out.2.2 h) q3
   rw [hB.out,this];simp)
  go_wp2;go_ret;exact ⟨by rw [zL HN.out];rfl,HS.out.below⟩
end
section
open Go.RowKit Go.Extern.Stop Go.Stop Go.Extern
theorem aci (t:Addr) (w:World):(ReflectliteValue.unpack (.iface 166 (.pointer (some t)))).run Tryz.prog w=.ok (.agg #[.pointer (some ⟨10,166,none⟩),.pointer (some ⟨w.heap.size,0,none⟩),.int .u64 150]) (w.alloc (.cells #[.pointer (some t)] 166)):=by kernel_rfl
theorem ag8 (a : Addr) (w : World) : (ReflectliteValue.methodAny (ReflectliteValue.valueError "reflectlite.Value.Type" 0) (fun t _ _ _ => ReflectliteType.toType t) #[.agg #[.pointer (some ⟨10, 166, none⟩), .pointer (some a), .int .u64 150]]).run Tryz.prog w = .ok (.iface 254 (.agg #[.pointer (some ⟨10, 166, none⟩)])) w := by kernel_rfl
theorem aaI (h : Value) (w : World) : (Go.method 500 254 (.agg #[h]) "Kind").run Tryz.prog w = .ok (359, h) w := by kernel_rfl
theorem aha (w:World):((ReflectliteType.abiMethod fun t=>Functor.map (fun a:Nat=>Value.int .u8 a) (Rtype.kind t)   ) #[.pointer (some ⟨10,166,none⟩)]).run Tryz.prog w=.ok (.int .u8 22) w:=by kernel_rfl
theorem ag9 (w:World):((ReflectliteType.abiMethod fun t=>Functor.map (fun a:Nat=>Value.int .u8 a) (Rtype.kind t)   ) #[.pointer (some ⟨10,164,none⟩)]).run Tryz.prog w=.ok (.int .u8 25) w:=by kernel_rfl
theorem rlm (z:Sem Value) (f:TypeId->Addr->Nat->Nat->Sem Value) (v:Value) :
  ReflectliteValue.method z f #[v]=(do match<-ReflectliteValue.parts v with | none=>z | some (t,a,fl)=>f t a fl (fl % 32)):=rfl
theorem aaV (a:Addr) (w:World):(ReflectliteValue.parts (.agg #[.pointer (some ⟨10,166,none⟩),.pointer (some a),.int .u64 150])).run Tryz.prog w=.ok (some (166,a,150)) w:=by kernel_rfl
theorem afO (a p:Addr) (W:World) (ha:W.cell? a=some (.pointer (some p))) :
  (ReflectliteValue.method (ReflectliteValue.valueError "reflectlite.Value.IsNil" 0) ReflectliteValue.isNil #[.agg #[.pointer (some ⟨10, 166, none⟩), .pointer (some a), .int .u64 150]]).run Tryz.prog W = .ok (.bool false) W := by
 rw [rlm];simp only [Sem.run_bind,aaV,Result.andThen];simp [ReflectliteValue.isNil,loadVar,isAgg,underlying,Tryz.underlying166,ha,Result.andThen]
theorem aaJ (h : Value) (w : World) : (Go.method 500 254 (.agg #[h]) "Elem").run Tryz.prog w = .ok (371, .agg #[h]) w := by kernel_rfl
theorem VC (h : Value) (w : World) : (Go.method 500 254 (.agg #[h]) "Implements").run Tryz.prog w = .ok (372, .agg #[h]) w := by kernel_rfl
theorem XC (h : Value) (w : World) : (Go.method 500 254 (.agg #[h]) "AssignableTo").run Tryz.prog w = .ok (369, .agg #[h]) w := by kernel_rfl
theorem ahb (w:World):(ReflectliteType.method ReflectliteType.elem #[.agg #[.pointer (some ⟨10,166,none⟩)]]).run Tryz.prog w=.ok (.iface 254 (.agg #[.pointer (some ⟨10,164,none⟩)])) w:=by kernel_rfl
theorem JO (w : World) : (ReflectliteType.relation "Implements" ReflectliteType.implements_ #[.agg #[.pointer (some ⟨10, 164, none⟩)], .iface 254 (.agg #[.pointer (some ⟨10, 102, none⟩)])]).run Tryz.prog w = .ok (.bool true) w := by kernel_rfl
theorem adL (v:Value) (w:World):(ReflectliteType.typeOf #[.iface 164 v]).run Tryz.prog w=.ok (.iface 254 (.agg #[.pointer (some ⟨10,164,none⟩)])) w:=by kernel_rfl
theorem JP (w : World) : (ReflectliteType.relation "AssignableTo" ReflectliteType.assignableTo #[.agg #[.pointer (some ⟨10, 164, none⟩)], .iface 254 (.agg #[.pointer (some ⟨10, 164, none⟩)])]).run Tryz.prog w = .ok (.bool true) w := by kernel_rfl
theorem ach (e:Int) (w:World):(ReflectliteValue.unpack (.iface 164 (.agg #[.int .i64 e]))).run Tryz.prog w=.ok (.agg #[.pointer (some ⟨10,164,none⟩),.pointer (some ⟨w.heap.size,0,none⟩),.int .u64 153]) (w.alloc (.cells #[.int .i64 e] 164)):=by kernel_rfl
theorem adN (w:World):(Rtype.elem? 166).run Tryz.prog w=.ok (some 164) w:=by kernel_rfl
theorem ajL (p:Addr) (w:World):(ReflectliteValue.mk 164 p ReflectliteValue.flagAddr).run Tryz.prog w=.ok (.agg #[.pointer (some ⟨10,164,none⟩),.pointer (some p),.int .u64 409]) w:=by kernel_rfl
theorem afP (a p:Addr) (W:World) (ha:W.cell? a=some (.pointer (some p))) :
  (ReflectliteValue.method (ReflectliteValue.valueError "reflectlite.Value.Elem" 0) ReflectliteValue.elem #[.agg #[.pointer (some ⟨10, 166, none⟩), .pointer (some a), .int .u64 150]]).run Tryz.prog W = .ok (.agg #[.pointer (some ⟨10, 164, none⟩), .pointer (some p), .int .u64 409]) W := by
 rw [rlm];simp only [Sem.run_bind,aaV,Result.andThen];simp [ReflectliteValue.elem,loadVar,isAgg,underlying,Tryz.underlying166,ha,Result.andThen,adN,ajL]
theorem rls (v x:Value):ReflectliteValue.set #[v,x]=(do
  let (some (dst,a,fl),some (src,b,_)):=(<-ReflectliteValue.parts v,<-ReflectliteValue.parts x)
   | unsupported (.noEntry "extern/(internal/reflectlite.Value).Set.zeroValue")
  if fl / ReflectliteValue.flagAddr % 2 == 0 then unsupported (.noEntry "extern/(internal/reflectlite.Value).Set.unaddressable")
  let val<-loadVar src b
  if<-Rtype.directlyAssignable dst src then storeVar dst a val
  else if<-Rtype.implements dst src then
   if (<-Rtype.kind src)==20 then
    match val with
    | .nilIface => unsupported (.noEntry "extern/reflectlite: a nil value of one interface type handed on as a value of another")
    | _=>storeVar dst a val
   else storeVar dst a (.iface src val)
  else panicString ("reflectlite.Set: value of type " ++ (← Rtype.spelt src) ++ " is not assignable to type " ++ (← Rtype.spelt dst))
  pure (.tuple #[])):=rfl
theorem adM (a:Addr) (w:World):(ReflectliteValue.parts (.agg #[.pointer (some ⟨10,164,none⟩),.pointer (some a),.int .u64 409])).run Tryz.prog w=.ok (some (164,a,409)) w:=by kernel_rfl
theorem afN (a:Addr) (w:World):(ReflectliteValue.parts (.agg #[.pointer (some ⟨10,164,none⟩),.pointer (some a),.int .u64 153])).run Tryz.prog w=.ok (some (164,a,153)) w:=by kernel_rfl
theorem adO (w:World):(Rtype.directlyAssignable 164 164).run Tryz.prog w=.ok true w:=by kernel_rfl
theorem aiV (ta b:Addr) (e:Int) (old:Value) (W:World) (hb:W.cell? b=some (.int .i64 e)) (ht:W.cell? ta=some old) (hf:W.frozen? ta=false) :
  (ReflectliteValue.set #[.agg #[.pointer (some ⟨10,164,none⟩),.pointer (some ta),.int .u64 409],.agg #[.pointer (some ⟨10,164,none⟩),.pointer (some b),.int .u64 153]]).run Tryz.prog W=.ok (.tuple #[]) (W.setCell ta (.int .i64 e)):=by
 rw [rls];simp only [Sem.run_bind,adM,afN,Result.andThen];simp [ReflectliteValue.flagAddr,loadVar,isAgg,underlying,Tryz.underlying164,hb,Result.andThen,adO,storeVar,Value.cells,storeCells,loadCells,Addr.add];have hl:Sem.run Tryz.prog (loadCellsFrom b 0 1 #[]) W=.ok #[.int .i64 e] W:=by
  simp [loadCellsFrom,hb,Addr.add,Result.andThen]
 rw [hl];simp only [];simp [storeCells];rw [show ta.add 0=ta by simp [Addr.add]];rw [run_store Tryz.prog W ta _ _ (by rfl)];simp [ht,hf]
theorem akb (t:Value) (w:World) :
  Calls Tryz.prog 124 #[.nilIface,t] w fun e w'=>e=.returned (.bool false)/\w'=w:=by
 go_enter Tryz.func124,Tryz.ntmps124;go_wp2;go_ret;exact ⟨rfl,rfl⟩
theorem akc (e:Int) (t:Addr) (old:Value) (w:World) (hg:w.cell? ⟨1,0,none⟩=some (.iface 254 (.agg #[.pointer (some ⟨10,102,none⟩)]))) (ht0:w.cell? t=some old) (hf0:w.frozen? t=false) :
  Calls Tryz.prog 124 #[.iface 164 (.agg #[.int .i64 e]),.iface 166 (.pointer (some t))] w fun ev w'=>ev=.returned (.bool true)/\w'=(((((w.alloc (.cells #[.pointer (some t)] 166)).alloc (.cells #[.pointer (some ⟨10,166,none⟩),.pointer (some ⟨w.heap.size,0,none⟩),.int .u64 150] 217)).alloc (.cells #[.pointer (some ⟨10,166,none⟩),.pointer (some ⟨w.heap.size,0,none⟩),.int .u64 150] 217)).alloc (.cells #[.int .i64 e] 164)).setCell t (.int .i64 e)):=by
 have h6 := @run_callFunc_extern Tryz.prog 174 _ (fun args=>ReflectliteValue.unpack (args.getD 0 (.tuple #[]))) Tryz.func174 (by kernel_rfl) (by kernel_rfl) (by kernel_rfl) (by kernel_rfl)
 have h7 := @run_callFunc_extern Tryz.prog 175 _ (ReflectliteValue.methodAny (ReflectliteValue.valueError "reflectlite.Value.Type" 0) (fun t _ _ _ => ReflectliteType.toType t)) Tryz.func175 (by kernel_rfl) (by kernel_rfl) (by kernel_rfl) (by kernel_rfl)
 have h8 := @run_callFunc_extern Tryz.prog 176 _ (ReflectliteValue.method (ReflectliteValue.valueError "reflectlite.Value.IsNil" 0) ReflectliteValue.isNil) Tryz.func176 (by kernel_rfl) (by kernel_rfl) (by kernel_rfl) (by kernel_rfl)
 have h27 := @run_callFunc_extern Tryz.prog 359 _ (ReflectliteType.abiMethod fun t=>do pure (.int .u8 (<-Rtype.kind t))) Tryz.func359 (by kernel_rfl) (by kernel_rfl) (by kernel_rfl) (by kernel_rfl);have h37 := @run_callFunc_extern Tryz.prog 371 _ (ReflectliteType.method ReflectliteType.elem) Tryz.func371 (by kernel_rfl) (by kernel_rfl) (by kernel_rfl) (by kernel_rfl)
 have h38 := @run_callFunc_extern Tryz.prog 372 _ (ReflectliteType.relation "Implements" ReflectliteType.implements_) Tryz.func372 (by kernel_rfl) (by kernel_rfl) (by kernel_rfl) (by kernel_rfl)
 have h10 := @run_callFunc_extern Tryz.prog 228 _ (ReflectliteType.typeOf) Tryz.func228 (by kernel_rfl) (by kernel_rfl) (by kernel_rfl) (by kernel_rfl)
 have h35 := @run_callFunc_extern Tryz.prog 369 _ (ReflectliteType.relation "AssignableTo" ReflectliteType.assignableTo) Tryz.func369 (by kernel_rfl) (by kernel_rfl) (by kernel_rfl) (by kernel_rfl)
 have h11 := @run_callFunc_extern Tryz.prog 229 _ (ReflectliteValue.method (ReflectliteValue.valueError "reflectlite.Value.Elem" 0) ReflectliteValue.elem) Tryz.func229 (by kernel_rfl) (by kernel_rfl) (by kernel_rfl) (by kernel_rfl)
 have h12 := @run_callFunc_extern Tryz.prog 230 _ (ReflectliteValue.set) Tryz.func230 (by kernel_rfl) (by kernel_rfl) (by kernel_rfl) (by kernel_rfl);have tO:=adL;have mA:=XC;have a25:=JP;have v25:=ach;have f6:=aci;have f7:=ag8;have mK:=aaI;have mE:=aaJ;have mI:=VC;have k27:=aha;have k25:=ag9;have e27:=ahb;have i25:=JO;have n8:=afO ⟨w.heap.size,0,none⟩ t ((w.alloc (.cells #[.pointer (some t)] 166)).alloc (.cells #[.pointer (some ⟨10,166,none⟩),.pointer (some ⟨w.heap.size,0,none⟩),.int .u64 150] 217)) (by simp);have hlt:1<w.heap.size:=by
  rcases Nat.lt_or_ge 1 w.heap.size with h | h0
  ·exact h
  simp [World.cell?,Array.getElem?_eq_none h0] at hg
 have hg2:((w.alloc (.cells #[.pointer (some t)] 166)).alloc (.cells #[.pointer (some ⟨10,166,none⟩),.pointer (some ⟨w.heap.size,0,none⟩),.int .u64 150] 217)).cell? ⟨1,0,none⟩=some (.iface 254 (.agg #[.pointer (some ⟨10,102,none⟩)])):=by
  rw [World.cell?_alloc_lt _ _ ⟨1,0,none⟩ (by simp;omega),World.cell?_alloc_lt _ _ ⟨1,0,none⟩ hlt];exact hg
 have htl:t.block<w.heap.size:=by
  rcases Nat.lt_or_ge t.block w.heap.size with h | h
  ·exact h
  simp [World.cell?,Array.getElem?_eq_none h] at ht0
 have el:=afP ⟨w.heap.size,0,none⟩ t (((w.alloc (.cells #[.pointer (some t)] 166)).alloc (.cells #[.pointer (some ⟨10,166,none⟩),.pointer (some ⟨w.heap.size,0,none⟩),.int .u64 150] 217)).alloc (.cells #[.pointer (some ⟨10,166,none⟩),.pointer (some ⟨w.heap.size,0,none⟩),.int .u64 150] 217)) (by rw [World.cell?_alloc_lt _ _ ⟨w.heap.size,0,none⟩ (by simp;omega)];simp);have st:=aiV t ⟨w.heap.size+1+1+1,0,none⟩ e old ((((w.alloc (.cells #[.pointer (some t)] 166)).alloc (.cells #[.pointer (some ⟨10,166,none⟩),.pointer (some ⟨w.heap.size,0,none⟩),.int .u64 150] 217)).alloc (.cells #[.pointer (some ⟨10,166,none⟩),.pointer (some ⟨w.heap.size,0,none⟩),.int .u64 150] 217)).alloc (.cells #[.int .i64 e] 164))
  (by rw [World.cell?_alloc_at _ _ _ _ (by simp)];rfl)
  (by rw [World.cell?_alloc_lt _ _ t (by simp;omega),World.cell?_alloc_lt _ _ t (by simp;omega),World.cell?_alloc_lt _ _ t (by simp;omega),World.cell?_alloc_lt _ _ t htl];exact ht0)
  (by rw [World.frozen?_alloc_old _ _ t (by simp;omega),World.frozen?_alloc_old _ _ t (by simp;omega),World.frozen?_alloc_old _ _ t (by simp;omega),World.frozen?_alloc_old _ _ t (Nat.ne_of_lt htl)];exact hf0)
 go_enter Tryz.func124,Tryz.ntmps124;go_wp2;refine wp_loop_rounds 1 ?_;rw [rounds_succ];go_wp2;go_ret;exact ⟨rfl,rfl⟩
def ErrT (w:World):Prop:=w.cell? ⟨1,0,none⟩=some (.iface 254 (.agg #[.pointer (some ⟨10,102,none⟩)]))
theorem ErrT.lt {w:World} (h:ErrT w):1<w.heap.size:=World.block_lt_of_cell? _ _ h
theorem ErrT.on {w w':World} (h:ErrT w) (hb:Below w.heap.size w w'):ErrT w':=(hb.cell (p:=⟨1,0,none⟩) h.lt).trans h
end
section
open Go.RowKit
def qG:Option Int->Value
 | none=>.nilIface
 | some e=>.iface 164 (.agg #[.int .i64 e])
def XB (b:Bool) (e:Int):Option Int:=if b then none else some e
def aaw:Option Int->Int
 | none=>0
 | some e=>e
theorem US (b:Bool) (e:Int) (w:World):Calls Tryz.prog 83 #[.bool b,.int .i64 e] w fun x w'=>x=.returned (qG (XB b e))/\w=w':=by
 cases b with
 | true=>
  go_enter Tryz.func83,Tryz.ntmps83;go_wp2;go_ret;exact ⟨rfl,rfl⟩
 | false=>
  go_enter Tryz.func83,Tryz.ntmps83;go_wp2;go_ret;exact ⟨rfl,rfl⟩
def ZG:List (Option Int)->Option Int
 | []=>none
 | none::l=>ZG l
 | some e::_=>some e
theorem zF (g n c:Nat) (l:List (Option Int)) (w:World) (h:Blk w g 102 (l.map qG).toArray) (hl:l.length=n) (hn:n<=1000) :
  Calls Tryz.prog 82 #[.slice (some ⟨g,0,none⟩) n c] w fun x w'=>x=.returned (qG (ZG l))/\w=w':=by
 have hc:∀ k o,l[k]? = some o->w.cell? ⟨g,k,none⟩=some (qG o):=fun k o ho=>by rw [h.cell];simp [ho]
 have HC:=za hc;clear h hc;go_enter Tryz.func82,Tryz.ntmps82;go_wp2;go_loopw [7] (fun kv wr=>∃ k:Nat,k<=n/\kv=.int .i64 (k:Int)/\wr=w/\Hid (ZG l=ZG (l.drop k))) (fun kv _=>n-(intOf kv).toNat)
 case atStart=>exact ⟨0,Nat.zero_le _,rfl,rfl,za rfl⟩
 case round=>
  obtain ⟨k,hk,rfl,rfl,HR⟩:=hrel;by_cases hlt:k<n
  ·have d1:decide ((k:Int)<(n:Int))=true:=(by simp;omega);have hkn:(k:Int)<(n:Int):=(by omega);obtain ⟨o,ho⟩:∃ o,l[k]? = some o:=⟨_,List.getElem?_eq_getElem (by omega)⟩;have c0:=HC.out k o ho;have hd:l.drop k=o::l.drop (k+1):=by
    obtain ⟨hi,rfl⟩:=List.getElem?_eq_some_iff.1 ho;exact List.drop_eq_getElem_cons hi
   cases o with
   | none=>
    have HN:=za (show ZG l=ZG (l.drop (k+1)) by rw [HR.out,hd];rfl);simp only [qG] at c0;clear ho hd HR;go_wp2;go_roundw;case rel=>exact ⟨k+1,by omega,by go_num,by trivial,HN⟩
    case measure=>simp [intOf];omega
   | some e=>
    have HN:=za (show ZG l=some e by rw [HR.out,hd];rfl);simp only [qG] at c0;clear ho hd HR;go_wp2;go_ret;exact ⟨by rw [HN.out];rfl,rfl⟩
  have d1:decide ((k:Int)<(n:Int))=false:=by simp;omega
  have HN:=za (show ZG l=none by rw [HR.out,List.drop_of_length_le (by omega)];rfl);go_wp2;go_ret;exact ⟨by rw [HN.out];rfl,rfl⟩
theorem Zr (o:Option Int) (w:World) (hT:ErrT w):Calls Tryz.prog 65 #[qG o] w fun x w'=>x=.returned (.int .i64 (aaw o))/\Below w.heap.size w w':=by
 have HT:=za hT;clear hT;cases o with
 | none=>
  simp only [qG];go_enter Tryz.func65,Tryz.ntmps65;go_wp2_with fail
  with_reducible refine (akb _ _).mono ?_
  rintro e w1 ⟨rfl,rfl⟩;go_wp2;go_ret;exact ⟨rfl,bal (Below.refl _ _) _⟩
 | some e=>
  simp only [qG];have HB:=za (Blk.new w 164 #[.int .i64 0]);have Hb:=za (bal (Below.refl w.heap.size w) (.cells #[.int .i64 0] 164));go_enter Tryz.func65,Tryz.ntmps65;go_wp2_with fail
  generalize w.alloc (.cells #[.int .i64 0] 164)=W at *;have hE:=HT.out.on Hb.out;unfold ErrT at hE;have hx0:W.cell? ⟨w.heap.size,0,none⟩=some (.int .i64 0):=HB.out.cell 0;with_reducible refine (akc e ⟨w.heap.size,0,none⟩ (.int .i64 0) _ hE hx0 (HB.out.frozen 0)).mono ?_
  rintro x w1 ⟨rfl,hw1⟩;have hB1:Blk w1 w.heap.size 164 #[.int .i64 e]:=by
   rw [hw1];have:=((((HB.out.alloc (.cells #[.pointer (some ⟨w.heap.size,0,none⟩)] 166)).alloc (.cells #[.pointer (some ⟨10,166,none⟩),.pointer (some ⟨W.heap.size,0,none⟩),.int .u64 150] 217)).alloc (.cells #[.pointer (some ⟨10,166,none⟩),.pointer (some ⟨W.heap.size,0,none⟩),.int .u64 150] 217)).alloc (.cells #[.int .i64 e] 164)).set_ 0 (.int .i64 e);simpa only [List.setIfInBounds_toArray,List.set_cons_zero] using this
  have hb1:Below w.heap.size w w1:=by
   rw [hw1];exact (bal (bal (bal (bal Hb.out _) _) _) _).setCell (p:=⟨w.heap.size,0,none⟩) (Nat.le_refl _) _
  have c0:=hB1.cell 0;have Hb1:=za hb1;clear hw1 hB1 hb1 hE hx0;go_wp2;go_ret;exact ⟨rfl,Hb1.out⟩
end
end Go.Proofs.YtjpjalmilfgckaaGreatDoor
