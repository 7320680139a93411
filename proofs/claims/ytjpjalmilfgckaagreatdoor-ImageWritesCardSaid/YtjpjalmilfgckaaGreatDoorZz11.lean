/- Part 11 of the walks. Conditions: each lemma states its own. -/
import Derived.Test.YtjpjalmilfgckaaGreatDoorZz10
import Derived.Defers
import Derived.Recover
import Derived.Laws.BitsAllLaws
set_option maxRecDepth 100000
set_option maxHeartbeats 2000000
set_option linter.unusedVariables false
set_option linter.unusedSimpArgs false
namespace Go.Proofs.YtjpjalmilfgckaaGreatDoor
section
open Go.RowKit
theorem ZR (a b:ByteArray):Go.Op.bytesLess a.toList b.toList=Zn a b:=by unfold Zn;rw [Lib.toList_data,Lib.toList_data]
theorem adc {u:Bool} {x:Int} {s:ByteArray} {y:Int} {t:ByteArray} (h:(u,x,s)≠((u,y,t):Cl)) :
  (x<y/\qJ (u,x,s) (u,y,t) = -1)\/(y<x/\qJ (u,x,s) (u,y,t)=1)\/(x=y/\Zn s t=true/\qJ (u,x,s) (u,y,t) = -1)\/(x=y/\Zn s t=false/\qJ (u,x,s) (u,y,t)=1):=by
 unfold qJ Zn;rw [if_pos rfl];rcases Xt x y with ⟨h1,h2⟩ | ⟨h1,h2⟩ | ⟨h1,h2⟩
 ·exact .inl ⟨h1,by simp only;rw [h2];simp⟩
 ·exact .inr (.inl ⟨h1,by simp only;rw [h2];simp⟩)
 simp only;rw [h2,if_neg (by simp)];rcases Xu s.data.toList t.data.toList with ⟨p,-,r,-⟩ | ⟨-,q,r,-⟩ | ⟨p,-,-,-⟩
 ·exact .inr (.inr (.inl ⟨h1,p,r⟩))
 ·exact .inr (.inr (.inr ⟨h1,q,r⟩))
 exact absurd (by rw [h1,ByteArray.ext (Array.toList_inj.1 p)]) h
theorem afR (u:Bool) (x:Int) (s:ByteArray) (v:Bool) (y:Int) (t:ByteArray) (w:World) :
  Calls Tryz.prog 226 #[.agg #[.bool u,.int .i64 x,.string s],.agg #[.bool v,.int .i64 y,.string t]] w fun e w'=>e=.returned (.int .i64 (qJ (u,x,s) (v,y,t)))/\Below w.heap.size w w':=by
 have HB:=za (bal (bal (Below.refl w.heap.size w) (.cells #[.bool u,.int .i64 x,.string s] 23)) (.cells #[.bool v,.int .i64 y,.string t] 23));by_cases huv:u=v
 ·subst huv;have e1:(u==u)=true:=by simp
  have e0:(u != u)=false:=by simp
  by_cases hxy:x=y
  ·subst hxy;have e2:(x==x)=true:=(by simp);by_cases hst:s=t
   ·subst hst;have e3:(s.toList==s.toList)=true:=(by simp);have HC:=za (aeB (u,x,s));go_enter Tryz.func226,Tryz.ntmps226;go_wp2;go_ret;exact ⟨by rw [HC.out];rfl,HB.out⟩
   have e3:(s.toList==t.toList)=false:=by
    rw [Lib.toList_data,Lib.toList_data];simp only [beq_eq_false_iff_ne,ne_eq];exact fun h=>hst (ByteArray.ext (Array.toList_inj.1 h))
   have e5:decide (x<x)=false:=(by simp);have hne:((u,x,s):Cl)≠(u,x,t):=fun h=>hst (by injection h with _ h;injection h);obtain ⟨b,hb⟩:∃ b,Go.Op.bytesLess s.toList t.toList=b:=⟨_,rfl⟩;have hb2:=hb;rw [ZR] at hb2;have hC:qJ (u,x,s) (u,x,t)=if b then -1 else 1:=by
    rcases adc hne with ⟨h,-⟩ | ⟨h,-⟩ | ⟨-,h,h2⟩ | ⟨-,h,h2⟩
    ·omega
    ·omega
    ·rw [hb2] at h;subst h;exact h2
    rw [hb2] at h;subst h;exact h2
   have HC:=za hC;clear hC hne hst hb2;cases b with
   | true=>
    go_enter Tryz.func226,Tryz.ntmps226;go_wp2;go_ret;exact ⟨by rw [HC.out];rfl,HB.out⟩
   | false=>
    go_enter Tryz.func226,Tryz.ntmps226;go_wp2;go_ret;exact ⟨by rw [HC.out];rfl,HB.out⟩
  have e2:(x==y)=false:=by simpa using hxy
  have hne:((u,x,s):Cl)≠(u,y,t):=fun h=>hxy (by injection h with _ h;injection h);rcases adc hne with ⟨h,h2⟩ | ⟨h,h2⟩ | ⟨h,-⟩ | ⟨h,-⟩
  ·have e5:decide (x<y)=true:=(by simp;omega);have HC:=za h2;clear hne h2;go_enter Tryz.func226,Tryz.ntmps226;go_wp2;go_ret;exact ⟨by rw [HC.out];rfl,HB.out⟩
  ·have e5:decide (x<y)=false:=(by simp;omega);have hn:¬x<y:=(by omega);have HC:=za h2;clear hne h2;go_enter Tryz.func226,Tryz.ntmps226;go_wp2;go_ret;exact ⟨by rw [HC.out];rfl,HB.out⟩
  ·exact absurd h hxy
  exact absurd h hxy
 have e1:(u==v)=false:=by simpa using huv
 have e0:(u != v)=true:=by simpa using huv
 have HC:=za (show qJ (u,x,s) (v,y,t)=if u then -1 else 1 by unfold qJ;rw [if_neg huv]);clear huv;cases u with
 | true=>
  go_enter Tryz.func226,Tryz.ntmps226;go_wp2;go_ret;exact ⟨by rw [HC.out];rfl,HB.out⟩
 | false=>
  go_enter Tryz.func226,Tryz.ntmps226;go_wp2;go_ret;exact ⟨by rw [HC.out];rfl,HB.out⟩
theorem afE (A B:Option Addr) (n c m d:Nat) (l1 l2:List Cl) (w:World) (h1:Reads w w.heap.size 3 A n (cls l1)) (h2:Reads w w.heap.size 3 B m (cls l2)) (hn:n<=maxLen) :
  Calls Tryz.prog 261 #[.slice A n c,.slice B m d] w fun e w'=>e=.returned (.int .i64 (Zb l1 l2))/\Below w.heap.size w w':=by
 obtain ⟨q,hq⟩:∃ q,q=min n m:=⟨_,rfl⟩;have hqi:min (n:Int) (m:Int)=(q:Int):=by omega
 have H1:=za h1;have H2:=za h2;have hl1:=ye h1;have hl2:=ye h2;have HE:=za (show Zb (l1.drop q) (l2.drop q)=Lib.compareInt (n:Int) (m:Int) by rw [adb (by omega),hl1,hl2]);have hn63:n<=9223372036854775807:=by simp only [maxLen] at hn;omega
 have hqn:q<=n:=by omega
 have hqm:q<=m:=by omega
 have Hq:=za hq;clear h1 h2 hl1 hl2 hn hq;go_enter Tryz.func261,Tryz.ntmps261;go_wp2;go_loopw [12] (fun kv wr=>∃ k:Nat,k<=q/\kv=.int .i64 (k:Int)/\Hid (Zb l1 l2=Zb (l1.drop k) (l2.drop k))/\Hid (Below w.heap.size w wr)) (fun kv _=>q-(intOf kv).toNat)
 case atStart=>exact ⟨0,Nat.zero_le _,rfl,za rfl,za (Below.refl _ _)⟩
 case round=>
  obtain ⟨k,hk,rfl,HR,HB⟩:=hrel;by_cases hlt:k<q
  ·have d1:decide ((k:Int)<(q:Int))=true:=(by simp;omega);obtain ⟨ad,u,x,s,rfl,hbk,hx,a0,a1,a2⟩:=ym (H1.out.below HB.out) (k:=k) (by omega);obtain ⟨ad',v,y,t,rfl,hbk',hx',b0,b1,b2⟩:=ym (H2.out.below HB.out) (k:=k) (by omega);have LA0:=za (show ak1 wr (ad.add (k*3)) (.bool u) from fun w' h=>(h.cell (World.block_lt_of_cell? _ _ a0)).trans a0);have LA1:=za (show ak1 wr ⟨(ad.add (k*3)).block,(ad.add (k*3)).off+1,none⟩ (.int .i64 x) from fun w' h=>(h.cell (World.block_lt_of_cell? _ _ a1)).trans a1);have LA2:=za (show ak1 wr ⟨(ad.add (k*3)).block,(ad.add (k*3)).off+2,none⟩ (.string s) from fun w' h=>(h.cell (World.block_lt_of_cell? _ _ a2)).trans a2);have LB0:=za (show ak1 wr (ad'.add (k*3)) (.bool v) from fun w' h=>(h.cell (World.block_lt_of_cell? _ _ b0)).trans b0);have LB1:=za (show ak1 wr ⟨(ad'.add (k*3)).block,(ad'.add (k*3)).off+1,none⟩ (.int .i64 y) from fun w' h=>(h.cell (World.block_lt_of_cell? _ _ b1)).trans b1);have LB2:=za (show ak1 wr ⟨(ad'.add (k*3)).block,(ad'.add (k*3)).off+2,none⟩ (.string t) from fun w' h=>(h.cell (World.block_lt_of_cell? _ _ b2)).trans b2);obtain ⟨q9,hq9⟩:∃ q9,qJ (u,x,s) (v,y,t)=q9:=⟨_,rfl⟩;have HS:=za (show Zb l1 l2=if q9=0 then Zb (l1.drop (k+1)) (l2.drop (k+1)) else q9 by rw [HR.out,abm hx hx',hq9]);have Hq9:=za hq9;have hkn:(k:Int)<(n:Int):=(by omega);have hkm:(k:Int)<(m:Int):=(by omega);clear hx hx' hbk hbk' a0 a1 a2 b0 b1 b2 hq9;go_wp2;have hS:=ak2 wr;refine hB wr [0,1,2,3,4,5,6,7,tt 8,9] ?_;(iterate 3 refine hP hS ?_);refine hP3 hS LA0.out LA1.out LA2.out ?_;(iterate 3 refine hP hS ?_);refine hP3 hS LB0.out LB1.out LB2.out ?_;refine hE fun K hK=>?_;go_simp;(with_reducible refine (aiq u x s v y t _).mono ?_);rintro e w5 ⟨rfl,hb5⟩;rw [Hq9.out];have HB5:=za (bon HB.out (bon hS hb5));refine hG hK (by exact bon hS hb5) fun hS=>?_;clear hK K;clear hb5;refine hP hS ?_;refine zc ?_;clear hS LA0 LA1 LA2 LB0 LB1 LB2;by_cases h9:q9=0
   ·have d9:(q9 != 0)=false:=(by simpa using h9);have HR5:=za (show Zb l1 l2=Zb (l1.drop (k+1)) (l2.drop (k+1)) by rw [HS.out,if_pos h9]);subst h9;go_wp2;go_roundw;case rel=>exact ⟨k+1,by omega,by go_num,HR5,HB5⟩
    case measure=>simp [intOf];omega
   have d9:(q9 != 0)=true:=(by simpa using h9);have HR5:=za (show Zb l1 l2=q9 by rw [HS.out,if_neg h9]);clear h9;go_wp2;go_ret;exact ⟨by rw [HR5.out];rfl,HB5.out⟩
  have d1:decide ((k:Int)<(q:Int))=false:=by simp;omega
  have HE2:=za (show Zb l1 l2=Lib.compareInt (n:Int) (m:Int) by rw [HR.out,show k=q by omega,HE.out]);go_wp2_with fail
  with_reducible refine (aii (n:Int) (m:Int) _).mono ?_
  rintro e w5 ⟨rfl,rfl⟩;go_wp2;go_ret;exact ⟨by rw [HE2.out];rfl,HB.out⟩
theorem adI (A B:Option Addr) (n c m d:Nat) (l1 l2:List Cl) (w:World) (h1:Reads w w.heap.size 3 A n (cls l1)) (h2:Reads w w.heap.size 3 B m (cls l2)) (hn:n<=maxLen) :
  Calls Tryz.prog 172 #[.slice A n c,.slice B m d] w fun e w'=>e=.returned (.int .i64 (Zb l1 l2))/\Below w.heap.size w w':=by
 obtain ⟨q,hq⟩:∃ q,q=min n m:=⟨_,rfl⟩;have hqi:min (n:Int) (m:Int)=(q:Int):=by omega
 have H1:=za h1;have H2:=za h2;have hl1:=ye h1;have hl2:=ye h2;have HE:=za (show Zb (l1.drop q) (l2.drop q)=Lib.compareInt (n:Int) (m:Int) by rw [adb (by omega),hl1,hl2]);have hn63:n<=9223372036854775807:=by simp only [maxLen] at hn;omega
 have hqn:q<=n:=by omega
 have hqm:q<=m:=by omega
 have Hq:=za hq;clear h1 h2 hl1 hl2 hn hq;go_enter Tryz.func172,Tryz.ntmps172;go_wp2;go_loopw [5] (fun kv wr=>∃ k:Nat,k<=q/\kv=.int .i64 (k:Int)/\Hid (Zb l1 l2=Zb (l1.drop k) (l2.drop k))/\Hid (Below w.heap.size w wr)) (fun kv _=>q-(intOf kv).toNat)
 case atStart=>exact ⟨0,Nat.zero_le _,rfl,za rfl,za (Below.refl _ _)⟩
 case round=>
  obtain ⟨k,hk,rfl,HR,HB⟩:=hrel;by_cases hlt:k<q
  ·have d1:decide ((k:Int)<(n:Int))=true:=(by simp;omega);have d2:decide ((k:Int)<(m:Int))=true:=(by simp;omega);have hkn2:k<n:=(by omega);have hkm2:k<m:=(by omega);obtain ⟨ad,u,x,s,rfl,hbk,hx,a0,a1,a2⟩:=ym (H1.out.below HB.out) (k:=k) (by omega);obtain ⟨ad',v,y,t,rfl,hbk',hx',b0,b1,b2⟩:=ym (H2.out.below HB.out) (k:=k) (by omega);have LA0:=za (show ak1 wr (ad.add (k*3)) (.bool u) from fun w' h=>(h.cell (World.block_lt_of_cell? _ _ a0)).trans a0);have LA1:=za (show ak1 wr ⟨(ad.add (k*3)).block,(ad.add (k*3)).off+1,none⟩ (.int .i64 x) from fun w' h=>(h.cell (World.block_lt_of_cell? _ _ a1)).trans a1);have LA2:=za (show ak1 wr ⟨(ad.add (k*3)).block,(ad.add (k*3)).off+2,none⟩ (.string s) from fun w' h=>(h.cell (World.block_lt_of_cell? _ _ a2)).trans a2);have LB0:=za (show ak1 wr (ad'.add (k*3)) (.bool v) from fun w' h=>(h.cell (World.block_lt_of_cell? _ _ b0)).trans b0);have LB1:=za (show ak1 wr ⟨(ad'.add (k*3)).block,(ad'.add (k*3)).off+1,none⟩ (.int .i64 y) from fun w' h=>(h.cell (World.block_lt_of_cell? _ _ b1)).trans b1);have LB2:=za (show ak1 wr ⟨(ad'.add (k*3)).block,(ad'.add (k*3)).off+2,none⟩ (.string t) from fun w' h=>(h.cell (World.block_lt_of_cell? _ _ b2)).trans b2);obtain ⟨q9,hq9⟩:∃ q9,qJ (u,x,s) (v,y,t)=q9:=⟨_,rfl⟩;have HS:=za (show Zb l1 l2=if q9=0 then Zb (l1.drop (k+1)) (l2.drop (k+1)) else q9 by rw [HR.out,abm hx hx',hq9]);have Hq9:=za hq9;have hkn:(k:Int)<(n:Int):=(by omega);have hkm:(k:Int)<(m:Int):=(by omega);clear hx hx' hbk hbk' a0 a1 a2 b0 b1 b2 hq9;go_wp2;have hS:=ak2 wr;refine hB wr [0,1,2,3,4,5,6,7,tt 8,9] ?_;(iterate 3 refine hP hS ?_);refine hP3 hS LA0.out LA1.out LA2.out ?_;(iterate 3 refine hP hS ?_);refine hP3 hS LB0.out LB1.out LB2.out ?_;refine hE fun K hK=>?_;go_simp;(with_reducible refine (afR u x s v y t _).mono ?_);rintro e w5 ⟨rfl,hb5⟩;rw [Hq9.out];have HB5:=za (bon HB.out (bon hS hb5));refine hG hK (by exact bon hS hb5) fun hS=>?_;clear hK K;clear hb5;refine hP hS ?_;refine zc ?_;clear hS LA0 LA1 LA2 LB0 LB1 LB2;by_cases h9:q9=0
   ·have d9:(q9 != 0)=false:=(by simpa using h9);have HR5:=za (show Zb l1 l2=Zb (l1.drop (k+1)) (l2.drop (k+1)) by rw [HS.out,if_pos h9]);subst h9;go_wp2;go_roundw;case rel=>exact ⟨k+1,by omega,by go_num,HR5,HB5⟩
    case measure=>simp [intOf];omega
   have d9:(q9 != 0)=true:=(by simpa using h9);have HR5:=za (show Zb l1 l2=q9 by rw [HS.out,if_neg h9]);clear h9;go_wp2;go_ret;exact ⟨by rw [HR5.out];rfl,HB5.out⟩
  have HE2:=za (show Zb l1 l2=Lib.compareInt (n:Int) (m:Int) by rw [HR.out,show k=q by omega,HE.out]);rcases Xt (n:Int) (m:Int) with ⟨h1,h2⟩ | ⟨h1,h2⟩ | ⟨h1,h2⟩
  ·have d1:decide ((k:Int)<(n:Int))=false:=(by have:=Hq.out;simp;omega);have hk1:¬k<n:=(by have:=Hq.out;omega);have d3:decide ((n:Int)<(m:Int))=true:=(by simp;omega);have hnm:n<m:=(by omega);rw [h2] at HE2;clear h2;go_wp2;go_ret;exact ⟨by rw [HE2.out];rfl,HB.out⟩
  ·have d1:decide ((k:Int)<(n:Int))=true:=(by have:=Hq.out;simp;omega);have hk1:k<n:=(by have:=Hq.out;omega);have d2:decide ((k:Int)<(m:Int))=false:=(by have:=Hq.out;simp;omega);have hk2:¬k<m:=(by have:=Hq.out;omega);have d3:decide ((n:Int)<(m:Int))=false:=(by simp;omega);have hnm:¬n<m:=(by omega);have d4:decide ((m:Int)<(n:Int))=true:=(by simp;omega);have hnm:m<n:=(by omega);rw [h2] at HE2;clear h2;go_wp2;go_ret;exact ⟨by rw [HE2.out];rfl,HB.out⟩
  obtain rfl:n=m:=by omega
  have d1:decide ((k:Int)<(n:Int))=false:=by have:=Hq.out;simp;omega
  have hk1:¬k<n:=by have:=Hq.out;omega
  have d3:decide ((n:Int)<(n:Int))=false:=by simp
  rw [h2] at HE2;clear h2 h1;go_wp2;go_ret;exact ⟨by rw [HE2.out];rfl,HB.out⟩
end
section
open Go.RowKit
abbrev thr (E:Int):Ending:=.panicked [{ v:=.iface 137 (.int .i64 E),recovered:=false }]
def ags (E:Int):Ending:=if E=0 then .returned (.tuple #[]) else thr E
theorem abg:ags 0=.returned (.tuple #[]):=rfl
theorem ZD {E:Int} (h:E≠0):ags E=thr E:=if_neg h
theorem qO (E:Int) (w:World):Calls Tryz.prog 95 #[.bool true,.int .i64 E] w fun e w'=>e=.returned (.tuple #[])/\w=w':=by
 go_enter Tryz.func95,Tryz.ntmps95;go_wp2
 go_end0
 exact ⟨rfl,rfl⟩
theorem qC (E:Int) (w:World):Calls Tryz.prog 95 #[.bool false,.int .i64 E] w fun e w'=>e=thr E/\w=w':=by
 go_enter Tryz.func95,Tryz.ntmps95;go_wp2;exact ⟨rfl,rfl,rfl⟩
theorem XY (w:World):Calls Tryz.prog 43 #[.int .i64 0] w fun e w'=>e=.returned (.tuple #[])/\w=w':=by
 go_enter Tryz.func43,Tryz.ntmps43;go_wp2
 go_end0
 exact ⟨rfl,rfl⟩
theorem Jr (E:Int) (hE:E≠0) (w:World):Calls Tryz.prog 43 #[.int .i64 E] w fun e w'=>e=thr E/\w=w':=by
 have d:(E != 0)=true:=by simpa using hE
 clear hE;go_enter Tryz.func43,Tryz.ntmps43;go_wp2;exact ⟨rfl,rfl,rfl⟩
theorem afF (x:Value) (w:World):(Instr.typeAssert (.iface 137 x) 20 137 true).run Tryz.prog w=.ok (.tuple #[x,.bool true]) w:=by
 simp only [Instr.typeAssert,Sem.run_bind,run_underlying Tryz.underlying137,Result.andThen_ok];rfl
theorem adU (p:Addr) (w:World) :
  CallsD Tryz.prog 101 #[.pointer (some p)] .returning w fun e u' w'=>e=.returned (.tuple #[])/\u'=.returning/\w'=w:=by
 refine callsD_of_wpS Tryz.func101 rfl fun c₀ cs hu=>?_;simp only [Tryz.ntmps101,List.size_toArray,List.length_cons,List.length_nil,Nat.reduceAdd,Nat.reduceSub,Array.replicate_succ,Array.replicate_zero,List.push_toArray,List.append_toArray,List.nil_append,List.cons_append];apply wpS_seq;apply wpS_region;simp [wpOpsS,go_sem,recoverD,hu,Exit.thenS];refine wpS_of_wp ?_;go_wp2;cases c₀
 simp_all [bodyPostS,results,Tryz.results101]
theorem acm (p:Addr) (x E:Int) (w:World) (hc:w.cell? p=some (.int .i64 x)) (hz:w.frozen? p=false) :
  CallsD Tryz.prog 101 #[.pointer (some p)] (.panicking [{ v:=.iface 137 (.int .i64 E),recovered:=false }]) w fun e u' w'=>
   e=.returned (.tuple #[])/\u'=.panicking [{ v:=.iface 137 (.int .i64 E),recovered:=true }]/\w'=w.setCell p (.int .i64 E):=by
 have hta:=afF;refine callsD_of_wpS Tryz.func101 rfl fun c₀ cs hu=>?_;simp only [Tryz.ntmps101,List.size_toArray,List.length_cons,List.length_nil,Nat.reduceAdd,Nat.reduceSub,Array.replicate_succ,Array.replicate_zero,List.push_toArray,List.append_toArray,List.nil_append,List.cons_append];apply wpS_seq;apply wpS_region;simp [wpOpsS,go_sem,recoverD,hu,Exit.thenS];refine wpS_of_wp ?_;go_wp2;simp [bodyPostS,results,Tryz.results101]
theorem aaA (f:FuncId) (caps:Array Value) (w:World) (R:Int->World->Prop)
  (hin:∀ args w',(callFunc f args).run Tryz.prog w'=.ok (.enter f args) w')
  (h:Calls Tryz.prog f caps (w.alloc (.cells #[.int .i64 0] 36)) (fun e w'=>∃ E:Int,e=ags E/\R E w'/\Blk w' w.heap.size 36 #[.int .i64 0])) :
  Calls Tryz.prog 38 #[.func (.func f) #[] caps] w (fun e w'=>∃ (E:Int) (w1:World),e=.returned (.int .i64 E)/\R E w1/\Blk w1 w.heap.size 36 #[.int .i64 0]/\w'=w1.setCell ⟨w.heap.size,0,none⟩ (.int .i64 E)):=by
 have hmf:∀ (fn:Fn) (first cap:Array Value) (w:World),(Instr.makeFunc fn first cap).run Tryz.prog w=.ok (.func fn first cap) w:=fun _ _ _ _=>rfl;have H:=za h;clear h
 go_enter_defers Tryz.func38,Tryz.ntmps38
 go_wp2_with fail
 with_reducible refine H.out.mono ?_
 rintro e w1 ⟨E,rfl,hR,hB⟩;have HB:=za hB;have HR:=za hR;have c0:=hB.cell 0;have f0:=hB.frozen 0;clear hR hB;by_cases hE:E=0
 ·subst hE;rw [abg];go_wp2;refine leaves_cons (f:=101) (args:=#[.pointer (some ⟨w.heap.size,0,none⟩)]) (by simp) (by simp [go_sem]) ?_;refine (adU ⟨w.heap.size,0,none⟩ _).mono ?_;rintro e u' w'' ⟨rfl,rfl,rfl⟩;have hs:=(HB.out.set_ 0 (.int .i64 0)).cell 0;simp only [List.setIfInBounds_toArray,List.set_cons_zero] at hs;simp [Leaves,settle,results,Tryz.results38,go_sem,hs];exact ⟨w1,HR.out,HB.out,rfl⟩
 rw [ZD hE];clear hE;go_wp2;refine leaves_cons (f:=101) (args:=#[.pointer (some ⟨w.heap.size,0,none⟩)]) (by simp) (by simp [go_sem]) ?_;refine (acm ⟨w.heap.size,0,none⟩ 0 E _ c0 f0).mono ?_;rintro e u' w'' ⟨rfl,rfl,rfl⟩;have hs:=(HB.out.set_ 0 (.int .i64 E)).cell 0;simp only [List.setIfInBounds_toArray,List.set_cons_zero] at hs;simp [Leaves,settle,results,Tryz.results38,go_sem,hs];exact ⟨w1,HR.out,HB.out,rfl⟩
end
section
open Go.RowKit
theorem Xw (A B:Option Addr) (n c m d:Nat) (l1 l2:List UInt8) (w:World) (h1:Reads w w.heap.size 1 A n (u8s l1)) (h2:Reads w w.heap.size 1 B m (u8s l2)) :
  Calls Tryz.prog 69 #[.slice A n c,.slice B m d] w fun e w'=>e=.returned (.bool (l1==l2))/\w=w':=by
 have e1:=zK (P:=Tryz.prog) w 35 9 5 Tryz.underlying35 Tryz.underlying5 Tryz.underlying9 _ A n c l1 h1;have e2:=zK (P:=Tryz.prog) w 35 9 5 Tryz.underlying35 Tryz.underlying5 Tryz.underlying9 _ B m d l2 h2;go_enter Tryz.func69,Tryz.ntmps69;go_wp2;go_ret;exact ⟨rfl,rfl⟩
theorem aiv (A B:Option Addr) (n c m d:Nat) (l1 l2:List UInt8) (w:World) (h1:Reads w w.heap.size 1 A n (u8s l1)) (h2:Reads w w.heap.size 1 B m (u8s l2)) (hn:n<=c) (hc:c<=maxLen) :
  Calls Tryz.prog 140 #[.slice A n c,.slice B m d] w fun e w'=>e=.returned (.bool (l1.take m==l2))/\w=w':=by
 have hl1:=zh h1;have hl2:=zh h2;have hc63:c<=9223372036854775807:=by simp only [maxLen] at hc;omega
 by_cases hmn:m<=n
 ·have d1:decide ((m:Int)<=(n:Int))=true:=by simp;omega
  have hmi:(m:Int)<=(n:Int):=by omega
  have hr:=h1.head hmn;rw [Nat.mul_one,Yc] at hr;have HK:=za (Xw A B m c m d (l1.take m) l2 w hr h2);clear h1 h2 hr hl1 hl2;go_enter Tryz.func140,Tryz.ntmps140;go_wp2_with fail
  with_reducible refine HK.out.mono ?_
  rintro e w1 ⟨rfl,rfl⟩;go_wp2;go_ret;exact ⟨rfl,rfl⟩
 have d1:decide ((m:Int)<=(n:Int))=false:=by simp;omega
 have hE:(l1.take m==l2)=false:=by
  rw [beq_eq_false_iff_ne];intro h;have:=congrArg List.length h;rw [List.length_take] at this;omega
 rw [hE];clear h1 h2 hl1 hl2 hE;go_enter Tryz.func140,Tryz.ntmps140;go_wp2;go_ret;exact ⟨rfl,rfl⟩
def akN (l1 l2:List UInt8) (A:Option Addr) (n c m b:Nat) (w:World) (e:Ending) (w':World):Prop:=
 w=w'/\if (l1.take m==l2)=true then ∃ A' k c',e=.returned (.tuple #[.slice A' k c',.bool true])/\Reads w b 1 A' k (u8s (l1.drop m))/\k<=c'/\c'<=maxLen
 else e=.returned (.tuple #[.slice A n c,.bool false])
theorem adk (b:Nat) (A B:Option Addr) (n c m d:Nat) (l1 l2:List UInt8) (w:World) (h1:Reads w b 1 A n (u8s l1)) (hb:b<=w.heap.size) (h2:Reads w w.heap.size 1 B m (u8s l2)) (hn:n<=c) (hc:c<=maxLen) :
  Calls Tryz.prog 80 #[.slice A n c,.slice B m d] w (akN l1 l2 A n c m b w):=by
 have hl1:=zh h1;have hl2:=zh h2;have hc63:c<=9223372036854775807:=by simp only [maxLen] at hc;omega
 have HK:=za (aiv A B n c m d l1 l2 w (h1.more hb) h2 hn hc);by_cases he:(l1.take m==l2)=true
 ·have hmn:m<=n:=by
   have:=congrArg List.length (eq_of_beq he);rw [List.length_take] at this;omega
  have hcut:=h1.cut hmn hn;rw [Nat.mul_one,yw] at hcut;obtain ⟨A2,hA2⟩:∃ A2,(if c=m then A else Option.map (fun x=>x.add m) A)=A2:=⟨_,rfl⟩;rw [hA2] at hcut;have Hcut:=za hcut;have hmi:(m:Int)<=(n:Int):=by omega
  have hmi2:(m:Int)<=(c:Int):=by omega
  have hmc:m<=c:=by omega
  have HE:=za he;clear h1 h2 hl1 hl2 hcut;go_enter Tryz.func80,Tryz.ntmps80;go_wp2_with fail
  with_reducible refine HK.out.mono ?_
  rintro e w1 ⟨rfl,rfl⟩;rw [he];clear he;go_wp2;go_ret2;refine ⟨rfl,?_⟩;rw [if_pos HE.out];exact ⟨A2,n-m,c-m,rfl,Hcut.out,by omega,by simp only [maxLen] at hc ⊢;omega⟩
 have HE:=za he;have he2:(l1.take m==l2)=false:=by simpa using he
 clear h1 h2 hl1 hl2 he;go_enter Tryz.func80,Tryz.ntmps80;go_wp2_with fail
 with_reducible refine HK.out.mono ?_
 rintro e w1 ⟨rfl,rfl⟩;rw [he2];clear he2;go_wp2;go_ret2;refine ⟨rfl,?_⟩;rw [if_neg HE.out];rfl
def akH (r:Got (Nat×List UInt8)) (base g:Nat) (w:World) (e:Ending) (w':World):Prop:=
 match r with
 | .ok p=>e=.returned (.int .u64 (p.1:Int))/\∃ B m c,w'=w.setCell ⟨g,0,none⟩ (.slice B m c)/\Reads w base 1 B m (u8s p.2)/\m<=c/\c<=maxLen
 | .error er=>e=thr (er:Int)/\er≠0/\w'=w
theorem aeb (base g:Nat) (B:Option Addr) (m c:Nat) (xs:List UInt8) (most beyond:Nat) (w:World) (hG:Blk w g 129 #[.slice B m c]) (hr:Reads w base 1 B m (u8s xs)) (hb:base<=w.heap.size) (hm:m<=c) (hc:c<=maxLen) (hbe:beyond≠0) :
  Calls Tryz.prog 154 #[.pointer (some ⟨g,0,none⟩),.int .u64 (most:Int),.int .i64 (beyond:Int)] w (akH (Ys most beyond xs) base g w):=by
 have hxl:=zh hr;have HK:=za (Xq B m c xs w (hr.more hb) hm hc);have hc0:=hG.cell 0;have hf0:=hG.frozen 0;have hc63:c<=9223372036854775807:=by simp only [maxLen] at hc;omega
 rcases qt xs with ⟨N,hg,hN,hl,-⟩ | ⟨er,hg,he,hel⟩
 ·have hE:Ys most beyond xs=if N<=most then .ok (N,xs.drop (leb N).length) else .error beyond:=by
   unfold Ys;rw [hg];simp
  rw [hg] at HK;unfold ZF at HK;generalize (leb N).length=sz at *;rw [hxl] at hl;have hcut:=hr.cut hl hm;rw [Nat.mul_one,yw] at hcut;obtain ⟨A2,hA2⟩:∃ A2,(if c=sz then B else Option.map (fun x=>x.add sz) B)=A2:=⟨_,rfl⟩;rw [hA2] at hcut;have Hcut:=za hcut;have HE:=za hE;have hmi:(sz:Int)<=(m:Int):=by omega
  have hmi2:(sz:Int)<=(c:Int):=by omega
  have hmc:sz<=c:=by omega
  simp only at HK;clear hr hxl hcut hE hg hG;go_enter Tryz.func154,Tryz.ntmps154;go_wp2_with fail
  with_reducible refine HK.out.mono ?_
  rintro e w1 ⟨rfl,rfl⟩;go_wp2_with fail
  with_reducible refine (XY _).mono ?_
  rintro e w2 ⟨rfl,rfl⟩;by_cases hle:N<=most
  ·have HE:=za (show Ys most beyond xs=.ok (N,xs.drop sz) by rw [HE.out,if_pos hle]);have d1:decide (N<=most)=true:=(by simpa using hle);clear hle;(go_wp2_with fail);(with_reducible refine (qO _ _).mono ?_);rintro e w2 ⟨rfl,rfl⟩;go_wp2;go_ret;rw [HE.out];exact ⟨rfl,A2,m-sz,c-sz,rfl,Hcut.out,by omega,by simp only [maxLen] at hc ⊢;omega⟩
  have HE:=za (show Ys most beyond xs=.error beyond by rw [HE.out,if_neg hle]);have d1:decide (N<=most)=false:=by simpa using hle
  clear hle;go_wp2_with fail
  with_reducible refine (qC _ _).mono ?_
  rintro e w2 ⟨rfl,rfl⟩;go_wp2;refine ⟨rfl,?_⟩;rw [HE.out];exact ⟨rfl,hbe,rfl⟩
 have HE:=za (show Ys most beyond xs=.error er by unfold Ys;rw [hg];simp [he]);rw [hg] at HK;unfold ZF at HK;simp only at HK;have hei:(er:Int)≠0:=by omega
 clear hr hxl hg hG;go_enter Tryz.func154,Tryz.ntmps154;go_wp2_with fail
 with_reducible refine HK.out.mono ?_
 rintro e w1 ⟨rfl,rfl⟩;go_wp2_with fail
 with_reducible refine (Jr _ hei _).mono ?_
 rintro e w2 ⟨rfl,rfl⟩;go_wp2;refine ⟨rfl,?_⟩;rw [HE.out];exact ⟨rfl,he,rfl⟩
end
section
open Go.RowKit
theorem afJ (g:Nat) (A:Option Addr) (n c:Nat) (cs:List Co) (k:Nat) (u:Bool) (x:Int) (s:ByteArray) (co:Co) (w:World) (hg:w.cell? ⟨g,0,none⟩=some (.slice A n c)) (hgl:g<w.heap.size) (hr:Reads w w.heap.size 7 A n (cos cs)) (hk:k<n) (hco:cs[k]? = some co) (hT:Tabs w) :
  Calls Tryz.prog 160 #[.int .i64 (k:Int),.agg #[.bool u,.int .i64 x,.string s],.pointer (some ⟨g,0,none⟩)] w fun e w'=>e=.returned (.int .i64 (zw co.2.2.1 co.2.2.2.1 (u,x,s)))/\Below w.heap.size w w':=by
 obtain ⟨ad,c',rfl,hb,hc',hat⟩:=yP hr hk;rw [hco] at hc';cases hc';have HT:=za hT;have hk2:(k:Int)<(n:Int):=by omega
 have hbl:(ad.add (k*7)).block<w.heap.size:=by rw [zg];exact hb
 obtain ⟨W,hW⟩:∃ W,W=w.alloc (.cells #[.bool u,.int .i64 x,.string s] 23):=⟨_,rfl⟩;have hb1:Below w.heap.size w W:=by rw [hW];exact (Below.refl w.heap.size w).alloc (Nat.le_refl _) _
 have HX:=za (show Blk W w.heap.size 23 #[.bool u,.int .i64 x,.string s] by rw [hW];exact Blk.new w _ _);have hat:=hat.on hb1 hbl;have hbl:=Nat.lt_of_lt_of_le hbl hb1.size;have hg:=(hb1.cell (p:=⟨g,0,none⟩) hgl).trans hg;have hgl:=Nat.lt_of_lt_of_le hgl hb1.size;have HG:=za (show ak1 W ⟨g,0,none⟩ (.slice (some ad) n c) from fun w' h=>(h.cell (p:=⟨g,0,none⟩) hgl).trans hg);have H2:=za (show ak1 W ⟨(ad.add (k*7)).block,(ad.add (k*7)).off+2,none⟩ (.int .i64 co.2.2.1) from fun w' h=>(hat.on h hbl).c2);have H3:=za (show ak1 W ⟨(ad.add (k*7)).block,(ad.add (k*7)).off+2+1,none⟩ (.bool co.2.2.2.1) from fun w' h=>(hat.on h hbl).c3);have X0:=za (show ak1 W ⟨w.heap.size,0,none⟩ (.bool u) from fun w' h=>(HX.out.on h).cell 0);have X1:=za (show ak1 W ⟨w.heap.size,1,none⟩ (.int .i64 x) from fun w' h=>(HX.out.on h).cell 1);have X2:=za (show ak1 W ⟨w.heap.size,2,none⟩ (.string s) from fun w' h=>(HX.out.on h).cell 2);have Hb1:=za hb1;have HTW:=za (HT.out.on hb1);have HW:=za hW;clear hr hco hb hat hT hg hgl hbl hb1 hW HX;generalize hk7:ad.add (k*7)=ak at *;go_enter Tryz.func160,Tryz.ntmps160;go_wp2;rw [<-HW.out];have hS:=ak2 W;refine hB W [0,1,2,3,4,5,tt 6,7] ?_;refine hP1 hS HG.out ?_;iterate 3 refine hP hS ?_
 refine hP2 hS H2.out H3.out ?_;refine hP3 hS X0.out X1.out X2.out ?_;refine hE fun K hK=>?_;go_simp;with_reducible refine (Xv co.2.2.1 co.2.2.2.1 u x s _ (HTW.out.on hS)).mono ?_
 rintro e w5 ⟨rfl,hb5⟩;refine hG hK (by exact bon hS hb5) fun hS=>?_;clear hK K;clear hb5;refine hP hS ?_;refine zc ?_;have HB:=za (bon Hb1.out hS);clear hS;go_wp2;go_ret;exact ⟨rfl,HB.out⟩
theorem Je (cs:List Co) (r:List Cl) (k:Nat) (co:Co) (x:Cl) (h1:cs[k]? = some co) (h2:r[k]? = some x) :
  yA (cs.drop k) (r.drop k)=if zw co.2.2.1 co.2.2.2.1 x=0 then yA (cs.drop (k+1)) (r.drop (k+1)) else zw co.2.2.1 co.2.2.2.1 x:=by
 obtain ⟨g1,rfl⟩:=List.getElem?_eq_some_iff.1 h1;obtain ⟨g2,rfl⟩:=List.getElem?_eq_some_iff.1 h2;rw [List.drop_eq_getElem_cons g1,List.drop_eq_getElem_cons g2,yA]
theorem aaz (cs:List Co) (r:List Cl):yA (cs.drop r.length) (r.drop r.length)=0:=by
 rw [List.drop_length];cases cs.drop r.length<;>rfl
theorem abC (g:Nat) (A:Option Addr) (n c:Nat) (cs:List Co) (B:Option Addr) (d:Nat) (r:List Cl) (w:World) (hg:w.cell? ⟨g,0,none⟩=some (.slice A n c)) (hgl:g<w.heap.size) (hr:Reads w w.heap.size 7 A n (cos cs)) (hr2:Reads w w.heap.size 3 B n (cls r)) (hm:n<=maxLen) (hT:Tabs w) :
  Calls Tryz.prog 159 #[.slice B n d,.func (.func 160) #[] #[.pointer (some ⟨g,0,none⟩)]] w fun e w'=>e=.returned (.int .i64 (yA cs r))/\Below w.heap.size w w':=by
 have HT:=za hT;have Hr:=za hr;have Hr2:=za hr2;have HG:=za hg;have Hlc:=za (zU hr);have Hlr:=za (ye hr2);have hm63:n<=9223372036854775807:=by simp only [maxLen] at hm;omega
 clear hT hr hr2 hg hm;go_enter Tryz.func159,Tryz.ntmps159;go_wp2;go_loopw [10] (fun i wr=>∃ k:Nat,k<=n/\i=.int .i64 (k:Int)/\Hid (yA cs r=yA (cs.drop k) (r.drop k))/\Hid (Below w.heap.size w wr)) (fun i _=>n-(intOf i).toNat)
 case atStart=>exact ⟨0,Nat.zero_le _,rfl,za rfl,za (Below.refl _ _)⟩
 case round=>
  obtain ⟨k,hk,rfl,HE,HB⟩:=hrel;by_cases hlt:k<n
  ·obtain ⟨ad,u,x,s,rfl,hbk,hx,h0,h1,h2⟩:=ym (Hr2.out.below HB.out) hlt;have hkc:k<cs.length:=(by rw [Hlc.out];omega);have hco:=List.getElem?_eq_getElem hkc;have HD:=za (Je cs r k cs[k] (u,x,s) hco hx);have Hco:=za hco;have hb1:=bal HB.out (.cells #[.bool u,.int .i64 x,.string s] 23);have HB1:=za hb1;generalize cs[k]=co at HD Hco;clear hx hbk hco hb1;(go_wp2_with fail);(with_reducible refine (afJ g A n c cs k u x s co _ ((HB1.out.cell (p:=⟨g,0,none⟩) hgl).trans HG.out) (Nat.lt_of_lt_of_le hgl HB1.out.size) (Hr.out.on HB1.out) hlt Hco.out (HT.out.on HB1.out)).mono ?_);rintro e w1 ⟨rfl,hb1⟩;have HB2:=za (bon HB1.out hb1);clear hb1;by_cases hz:zw co.2.2.1 co.2.2.2.1 (u,x,s)=0
   ·have HE2:=za (show yA cs r=yA (cs.drop (k+1)) (r.drop (k+1)) by rw [HE.out,HD.out,if_pos hz]);generalize zw co.2.2.1 co.2.2.2.1 (u,x,s)=E0 at hz ⊢;subst hz;go_wp2;go_roundw;case rel=>exact ⟨k+1,by omega,by go_num,HE2,HB2⟩
    case measure=>simp [intOf];omega
   have HE2:=za (show zw co.2.2.1 co.2.2.2.1 (u,x,s)=yA cs r by rw [HE.out,HD.out,if_neg hz]);rw [HE2.out] at hz ⊢;have hzb:(yA cs r != 0)=true:=(by simpa using hz);clear hz;go_wp2;go_ret;exact ⟨rfl,HB2.out⟩
  obtain rfl:k=n:=by omega
  have HE2:=za (show yA cs r=0 by rw [HE.out];have:=aaz cs r;rw [Hlr.out] at this;exact this);go_wp2;go_ret;rw [HE2.out];exact ⟨rfl,HB.out⟩
theorem acq (A:Option Addr) (n c:Nat) (cs:List Co) (B:Option Addr) (m d:Nat) (r:List Cl) (w:World) (hr:Reads w w.heap.size 7 A n (cos cs)) (hr2:Reads w w.heap.size 3 B m (cls r)) (hm:m<=maxLen) (hT:Tabs w) :
  Calls Tryz.prog 102 #[.slice A n c,.slice B m d] w fun e w'=>e=.returned (.int .i64 (qm cs r))/\Below w.heap.size w w':=by
 have hlc:=zU hr;have hlr:=ye hr2;have HT:=za hT;have Hr:=za hr;have Hr2:=za hr2;have Hb:=za (bal (Below.refl w.heap.size w) (.cells #[.slice A n c] 32));have HK:=za ((Blk.new w 32 #[.slice A n c]).cell 0);clear hr hr2 hT;by_cases hmn:m=n
 ·have HE:=za (show qm cs r=yA cs r by unfold qm;rw [if_pos (by omega)]);subst hmn;have db:((m:Int) != (m:Int))=false:=by simp
  clear hlc hlr;go_enter Tryz.func102,Tryz.ntmps102;go_wp2_with fail
  with_reducible refine (abC w.heap.size A m c cs B d r _ HK.out (by simp) (Hr.out.on Hb.out) (Hr2.out.on Hb.out) hm (HT.out.on Hb.out)).mono ?_
  rintro e w1 ⟨rfl,hb1⟩;have HB:=za (bon Hb.out hb1);clear hb1;go_wp2;go_ret;rw [HE.out];exact ⟨rfl,HB.out⟩
 have HE:=za (show qm cs r=100 by unfold qm;rw [if_neg (by omega)]);have db:((n:Int) != (m:Int))=true:=by simp;omega
 clear hlc hlr;go_enter Tryz.func102,Tryz.ntmps102;go_wp2;go_ret;rw [HE.out];exact ⟨rfl,Hb.out⟩
end
section
open Go.RowKit
def Xj (c:Co):Bool := !yZ c.2.2.1
theorem aef (i:Int) (nm:ByteArray) (k:Int) (nl u:Bool) (x:Int) (s:ByteArray) (w:World) :
  Calls Tryz.prog 152 #[.agg #[.int .i64 i,.string nm,.int .i64 k,.bool nl,.bool u,.int .i64 x,.string s]] w fun e w'=>e=.returned (.bool (!yZ k))/\Below w.heap.size w w':=by
 have B1:=za (Blk.new w 45 #[.int .i64 i,.string nm,.int .i64 k,.bool nl,.bool u,.int .i64 x,.string s]);have c2:=B1.out.cell 2;have c3:=B1.out.cell 3;go_enter Tryz.func152,Tryz.ntmps152;go_wp2_with fail
 with_reducible refine (Js k nl _).mono ?_
 rintro e w1 ⟨rfl,hb1⟩;have HB:=za (bon ((Below.refl _ w).alloc (Nat.le_refl _) (.cells #[.int .i64 i,.string nm,.int .i64 k,.bool nl,.bool u,.int .i64 x,.string s] 45)) hb1);clear hb1 c2 c3;go_wp2;go_ret;exact ⟨rfl,HB.out⟩
theorem ad9 (A:Option Addr) (n c:Nat) (cs:List Co) (w:World) (hr:Reads w w.heap.size 7 A n (cos cs)) (hn:n<=maxLen) :
  Calls Tryz.prog 193 #[.slice A n c,.func (.func 152) #[] #[]] w fun e w'=>(∃ r:Int,e=.returned (.int .i64 r)/\decide (0<=r)=cs.any Xj)/\Below w.heap.size w w':=by
 have Hr:=za hr;have Hl:=za (zU hr);have hn63:n<=9223372036854775807:=by simp only [maxLen] at hn;omega
 have hin:=zm Tryz.func152 (by kernel_rfl) (by kernel_rfl);clear hr hn;go_enter Tryz.func193,Tryz.ntmps193;go_wp2;go_loopw [8] (fun i wr=>∃ k:Nat,k<=n/\i=.int .i64 (k:Int)/\Hid (∀ j c,j<k->cs[j]? = some c->Xj c=false)/\Hid (Below w.heap.size w wr)) (fun i _=>n-(intOf i).toNat)
 case atStart=>exact ⟨0,Nat.zero_le _,rfl,za (fun j c h=>by omega),za (Below.refl _ _)⟩
 case round=>
  obtain ⟨k,hk,rfl,HN,HB⟩:=hrel;by_cases hlt:k<n
  ·obtain ⟨ad,co,rfl,hbk,hco,hat⟩:=yP (Hr.out.below HB.out) hlt;have h0:=hat.c0;have h1:=hat.c1;have h2:=hat.c2;have h3:=hat.c3;have h4:=hat.c4;have h5:=hat.c5;have h6:=hat.c6;have Hco:=za hco;have hki:(k:Int)<(n:Int):=(by omega);clear hco hat;(go_wp2_with fail);(with_reducible refine (aef co.1 co.2.1 co.2.2.1 co.2.2.2.1 co.2.2.2.2.1 co.2.2.2.2.2.1 co.2.2.2.2.2.2 _).mono ?_);rintro e w1 ⟨rfl,hb1⟩;have HB2:=za (bon HB.out hb1);clear hb1 h0 h1 h2 h3 h4 h5 h6 hbk;cases hm:yZ co.2.2.1 with
   | true=>
    have HN2:=za (show ∀ j c,j<k+1->cs[j]? = some c->Xj c=false from fun j c hj hc=>by
     rcases Nat.lt_or_ge j k with h | h
     ·exact HN.out j c h hc
     obtain rfl:j=k:=(by omega);rw [Hco.out] at hc;cases hc;simp [Xj,hm])
    clear hm;go_wp2;go_roundw;case rel=>exact ⟨k+1,by omega,by go_num,HN2,HB2⟩
    case measure=>simp [intOf];omega
   | false=>
    have HE:=za (show decide (0<=(k:Int))=cs.any Xj by
     have h1:cs.any Xj=true:=List.any_eq_true.2 ⟨co,List.mem_of_getElem? Hco.out,by simp [Xj,hm]⟩;rw [h1];simp)
    clear hm;go_wp2;go_ret;exact ⟨⟨_,rfl,HE.out⟩,HB2.out⟩
  obtain rfl:k=n:=by omega
  have HE:=za (show decide (0<=(-1:Int))=cs.any Xj by
   have h1:cs.any Xj=false:=by
    rw [List.any_eq_false];intro c hc;obtain ⟨j,hj⟩:=List.getElem?_of_mem hc;have:=HN.out j c (by have:=(List.getElem?_eq_some_iff.1 hj).1;rw [Hl.out] at this;exact this) hj;simp [this]
   rw [h1];rfl)
  go_wp2;go_ret;exact ⟨⟨_,rfl,HE.out⟩,HB.out⟩
theorem af1 (A:Option Addr) (n c:Nat) (cs:List Co) (w:World) (hr:Reads w w.heap.size 7 A n (cos cs)) (hn:n<=maxLen) :
  Calls Tryz.prog 153 #[.slice A n c,.func (.func 152) #[] #[]] w fun e w'=>e=.returned (.bool (cs.any Xj))/\Below w.heap.size w w':=by
 go_enter Tryz.func153,Tryz.ntmps153;go_wp2_with fail
 with_reducible refine (ad9 A n c cs w hr hn).mono ?_
 rintro e w1 ⟨⟨r,rfl,he⟩,hb1⟩;have HB:=za hb1;have HE:=za he;clear hb1 he hr hn;go_wp2;go_ret;exact ⟨by rw [<-HE.out];rfl,HB.out⟩
theorem aac (cs:List Co):yD cs=(decide (1<=cs.length/\cs.length<=32) && !(cs.any Xj)):=by
 unfold yD
 congr 1
 rw [List.not_any_eq_all_not]
 congr 1
 funext c
 simp [Xj]
theorem adj (A:Option Addr) (n c:Nat) (cs:List Co) (w:World) (hr:Reads w w.heap.size 7 A n (cos cs)) (hn:n<=maxLen) :
  Calls Tryz.prog 96 #[.slice A n c] w fun e w'=>e=.returned (.bool (yD cs))/\Below w.heap.size w w':=by
 have hl:=zU hr;have hE:=aac cs;rw [hl] at hE;have HE:=za hE;clear hE;by_cases h1:1<=n
 ·by_cases h2:n<=32
  ·have d1:decide ((1:Int)<=(n:Int))=true:=(by simp;omega);have d2:decide ((n:Int)<=32)=true:=(by simp;omega);have HE:=za (show yD cs = !(cs.any Xj) by rw [HE.out];simp [h1,h2]);clear hl;go_enter Tryz.func96,Tryz.ntmps96;(go_wp2_with fail);(with_reducible refine (af1 A n c cs w hr hn).mono ?_);rintro e w1 ⟨rfl,hb1⟩;have HB:=za hb1;clear hb1 hr;go_wp2;go_ret;exact ⟨by rw [HE.out];rfl,HB.out⟩
  have d1:decide ((1:Int)<=(n:Int))=true:=by simp;omega
  have d2:decide ((n:Int)<=32)=false:=by simp;omega
  have HE:=za (show yD cs=false by rw [HE.out];simp [h2]);clear hl hr;go_enter Tryz.func96,Tryz.ntmps96;go_wp2;go_ret;exact ⟨by rw [HE.out];rfl,Below.refl _ _⟩
 have d1:decide ((1:Int)<=(n:Int))=false:=by simp;omega
 have HE:=za (show yD cs=false by rw [HE.out];simp [h1]);clear hl hr;go_enter Tryz.func96,Tryz.ntmps96;go_wp2;go_ret;exact ⟨by rw [HE.out];rfl,Below.refl _ _⟩
theorem U7 (cs:List Co) (l:List It) (k:Nat) (it:It) (h:l[k]? = some it) :
  yz cs (l.drop k)=if qm cs it.1=0 then (if it.2=0 then 172 else yz cs (l.drop (k+1))) else qm cs it.1:=by
 obtain ⟨g,rfl⟩:=List.getElem?_eq_some_iff.1 h;rw [List.drop_eq_getElem_cons g,yz]
theorem aeL (A:Option Addr) (n c:Nat) (cs:List Co) (v s:Int) (I:Option Addr) (m d:Nat) (l:List It) (w:World) (hr:Reads w w.heap.size 7 A n (cos cs)) (hn:n<=maxLen) (hi:ItemsAt w w.heap.size I m l) (hm:m<=maxLen) (hT:Tabs w) :
  Calls Tryz.prog 40 #[.slice A n c,.agg #[.int .i64 v,.int .i64 s,.slice I m d]] w fun e w'=>e=ags (yT cs (v,s,l))/\Below w.heap.size w w':=by
 have Hr:=za hr;have Hi:=za hi;have HT:=za hT;have Hl:=za hi.len;have Hn:=za hn;have Hm:=za hm;have hm63:m<=9223372036854775807:=by simp only [maxLen] at hm;omega
 have B1:=za (Blk.new w 30 #[.int .i64 v,.int .i64 s,.slice I m d]);have HB:=za ((Below.refl _ w).alloc (Nat.le_refl _) (.cells #[.int .i64 v,.int .i64 s,.slice I m d] 30));clear hr hi hT hn hm;go_enter Tryz.func40,Tryz.ntmps40;go_wp2_with fail
 with_reducible refine (adj A n c cs _ (Hr.out.on HB.out) Hn.out).mono ?_
 rintro e w1 ⟨rfl,hb1⟩;have B1:=za (B1.out.on hb1);have HB:=za (bon HB.out hb1);clear hb1;have c0:=B1.out.cell 0;have c1:=B1.out.cell 1;have c2:=B1.out.cell 2;by_cases hb:baB cs (v,s,l)=true
 ·have hbb:=hb;unfold baB at hbb;simp only [Bool.and_eq_true,decide_eq_true_eq] at hbb;obtain ⟨hmay,hv0,hv1,hs0⟩:=hbb;have HE0:=za (show yT cs (v,s,l)=if 1048576<l.length then 5 else yz cs l by unfold yT;rw [if_pos hb]);rw [hmay];have d1:decide (0<=v)=true:=by simpa using hv0
  have d2:decide (v<=2147483647)=true:=by simpa using hv1
  have d3:decide (0<=s)=true:=by simpa using hs0
  clear hmay hb;go_wp2_with fail
  with_reducible refine (qO 2 _).mono ?_
  rintro e w2 ⟨rfl,rfl⟩;by_cases hM:m<=1048576
  ·have d4:decide ((m:Int)<=1048576)=true:=(by simp;omega);have HE0:=za (show yT cs (v,s,l)=yz cs l by rw [HE0.out,if_neg (by rw [Hl.out];omega)]);clear d1 d2 d3 hv0 hv1 hs0;(go_wp2_with fail);(with_reducible refine (qO 5 _).mono ?_);rintro e w2 ⟨rfl,rfl⟩;go_wp2;go_loopw [32] (fun i wr=>∃ k:Nat,k<=m/\i=.int .i64 (k:Int)/\Hid (yz cs l=yz cs (l.drop k))/\Hid (Below w.heap.size w wr)) (fun i _=>m-(intOf i).toNat)
   case atStart=>exact ⟨0,Nat.zero_le _,rfl,za rfl,HB⟩
   case round=>
    obtain ⟨k,hk,rfl,HE,HL⟩:=hrel;by_cases hlt:k<m
    ·obtain ⟨ad,A',c',it,rfl,hbk,hit,h0,h1,hrow,hc1,hc2⟩:=(Hi.out.below HL.out).at_ hlt;have HD:=za (U7 cs l k it hit);have HB1:=za (bal HL.out (.cells #[.slice A' it.1.length c',.int .i64 it.2] 26));have BI:=za (Blk.new wr 26 #[.slice A' it.1.length c',.int .i64 it.2]);have Hrow:=za ((hrow.more HL.out.size).al (.cells #[.slice A' it.1.length c',.int .i64 it.2] 26));have Hc:=za (Nat.le_trans hc1 hc2);have hki:(k:Int)<(m:Int):=(by omega);clear hit hrow hc1 hc2 c0 c1 c2;generalize hrl:it.1.length=rl at *;have Hrl:=za hrl;clear hrl;(go_wp2_with fail);(with_reducible refine (acq A n c cs A' rl c' it.1 _ (Hr.out.on HB1.out) Hrow.out Hc.out (HT.out.on HB1.out)).mono ?_);rintro e w3 ⟨rfl,hb3⟩;have HB3:=za (bon HB1.out hb3);have BI:=za (BI.out.on hb3);clear hb3 h0 h1 hbk;by_cases hz:qm cs it.1=0
     ·have HD:=za (show yz cs (l.drop k)=if it.2=0 then 172 else yz cs (l.drop (k+1)) by rw [HD.out,if_pos hz]);generalize qm cs it.1=E0 at hz ⊢;subst hz;(go_wp2_with fail);(with_reducible refine (XY _).mono ?_);rintro e w4 ⟨rfl,rfl⟩;have c1:=BI.out.cell 1;by_cases hw0:it.2=0
      ·have HX:=za (show yT cs (v,s,l)=172 by rw [HE0.out,HE.out,HD.out,if_pos hw0]);generalize it.2=W0 at *;subst hw0;(go_wp2_with fail);(with_reducible refine (qC 172 _).mono ?_);rintro e w5 ⟨rfl,rfl⟩;go_wp2;refine ⟨rfl,?_,HB3.out⟩;rw [HX.out];exact (ZD (by decide)).symm
      have HX:=za (show yz cs l=yz cs (l.drop (k+1)) by rw [HE.out,HD.out,if_neg hw0]);have dw:(it.2 != 0)=true:=(by simpa using hw0);generalize it.2=W0 at *;clear hw0;(go_wp2_with fail);(with_reducible refine (qO 172 _).mono ?_);rintro e w5 ⟨rfl,rfl⟩;go_wp2;go_roundw;case rel=>exact ⟨k+1,by omega,by go_num,HX,HB3⟩
      case measure=>simp [intOf];omega
     have HX:=za (show qm cs it.1=yT cs (v,s,l) by rw [HE0.out,HE.out,HD.out,if_neg hz]);rw [HX.out] at hz ⊢;have Hz:=za hz;clear hz;(go_wp2_with fail);(with_reducible refine (Jr (yT cs (v,s,l)) Hz.out _).mono ?_);rintro e w4 ⟨rfl,rfl⟩;go_wp2;exact ⟨rfl,(ZD Hz.out).symm,HB3.out⟩
    obtain rfl:k=m:=(by omega);have HE1:=za (show yT cs (v,s,l)=0 by rw [HE0.out,HE.out,List.drop_of_length_le (by rw [Hl.out];exact Nat.le_refl _)];rfl);go_wp2
    go_end0
    exact ⟨by rw [HE1.out];rfl,HL.out⟩
  have d4:decide ((m:Int)<=1048576)=false:=by simp;omega
  have HE1:=za (show yT cs (v,s,l)=5 by rw [HE0.out,if_pos (by rw [Hl.out];omega)]);clear d1 d2 d3 hv0 hv1 hs0;go_wp2_with fail
  with_reducible refine (qC 5 _).mono ?_
  rintro e w2 ⟨rfl,rfl⟩;go_wp2;refine ⟨rfl,?_,HB.out⟩;rw [HE1.out];exact (ZD (by decide)).symm
 have HE1:=za (show yT cs (v,s,l)=2 by unfold yT;rw [if_neg hb]);have fin:∀ w',Below w.heap.size w w'->(thr 2=ags (yT cs (v,s,l))/\Below w.heap.size w w'):=fun w' h=>⟨by rw [HE1.out];exact (ZD (by decide)).symm,h⟩;have Hfin:=za fin;unfold baB at hb;simp only [Bool.and_eq_true,decide_eq_true_eq] at hb;clear fin;cases hmay:yD cs with
 | false=>
  clear hb hmay;go_wp2_with fail
  with_reducible refine (qC 2 _).mono ?_
  rintro e w2 ⟨rfl,rfl⟩;go_wp2;exact ⟨rfl,Hfin.out _ HB.out⟩
 | true=>
  by_cases hv0:0<=v
  ·have d1:decide (0<=v)=true:=(by simpa using hv0);by_cases hv1:v<=2147483647
   ·have d2:decide (v<=2147483647)=true:=(by simpa using hv1);have hs0:¬0<=s:=fun h=>hb ⟨hmay,hv0,hv1,h⟩;have d3:decide (0<=s)=false:=(by simpa using hs0);clear hb hmay hv0 hv1 hs0;(go_wp2_with fail);(with_reducible refine (qC 2 _).mono ?_);rintro e w2 ⟨rfl,rfl⟩;go_wp2;exact ⟨rfl,Hfin.out _ HB.out⟩
   have d2:decide (v<=2147483647)=false:=(by simpa using hv1);clear hb hmay hv0 hv1;(go_wp2_with fail);(with_reducible refine (qC 2 _).mono ?_);rintro e w2 ⟨rfl,rfl⟩;go_wp2;exact ⟨rfl,Hfin.out _ HB.out⟩
  have d1:decide (0<=v)=false:=by simpa using hv0
  clear hb hmay hv0;go_wp2_with fail
  with_reducible refine (qC 2 _).mono ?_
  rintro e w2 ⟨rfl,rfl⟩;go_wp2;exact ⟨rfl,Hfin.out _ HB.out⟩
end
section
open Go.RowKit
def CTab (w:World):Prop:=∀ i,i<16->w.cell? ⟨0,i,none⟩=some (.int .u32 ((Zm i:Nat):Int))
theorem CTab.on {w w':World} (h:CTab w) (hb:Below w.heap.size w w'):CTab w':=fun i hi=>
 (hb.cell (p:=⟨0,i,none⟩) (World.block_lt_of_cell? _ _ (h i hi))).trans (h i hi)
theorem af3 (r:Nat) (h:r<4294967296):bits .xor .u32 4294967295 (r:Int)=((4294967295-r:Nat):Int):=by
 rw [show (4294967295:Int)=((4294967295:Nat):Int) from rfl,u32_xor_nat 4294967295 r (by decide) h]
 congr 1
 apply Nat.eq_of_testBit_eq;intro i;rw [show 4294967295-r=2 ^ 32-(r+1) by omega,Nat.testBit_two_pow_sub_succ h,Nat.testBit_xor,show (4294967295:Nat)=2 ^ 32-1 from rfl,Nat.testBit_two_pow_sub_one];by_cases hi:i<32
 ·simp [hi]
 have:r.testBit i=false:=Nat.testBit_lt_two_pow (Nat.lt_of_lt_of_le h (Nat.pow_le_pow_right (n:=2) (by decide) (by omega:32<=i)));simp [hi,this]
theorem Yx (r:Nat) (h:r<4294967296):Op.unary .xor (.int .u32 (r:Int))=pure (.int .u32 ((4294967295-r:Nat):Int)):=by
 rw [unary_xor,intBits_xor]
 congr 2
 exact af3 r h
theorem ajm (l:Nat) (h:l<16) (w:World):(Instr.indexAt 212 (.pointer (some ⟨0,0,none⟩)) (.int .u32 (l:Int))).run Tryz.prog w=.ok (.pointer (some ⟨0,l,none⟩)) w:=by
 have hu:=Tryz.underlying212;have hz:=Tryz.sizeOf67 w;simp only [Instr.indexAt,run_underlying hu,asIntOf,Instr.sureAddr,Sem.run_bind,Sem.run_pure,Result.andThen_ok];rw [if_pos (by omega)];simp only [hz,Sem.run_bind,Sem.run_pure,Result.andThen_ok];by_cases h0:l=0
 ·subst h0;rfl
 simp [Addr.add,h0]
theorem abf (w:World) (X:Nat) (hX:X<4294967296) (hT:CTab w):∃ q l Y:Nat,(X:Int) / 16=(q:Int)/\(X:Int) % 16=(l:Int)/\w.cell? ⟨0,l,none⟩=some (.int .u32 ((Zm l:Nat):Int)) /\
  bits .xor .u32 (q:Int) ((Zm l:Nat):Int)=(Y:Int)/\(∀ w',(Instr.indexAt 212 (.pointer (some ⟨0,0,none⟩)) (.int .u32 (l:Int))).run Tryz.prog w'=.ok (.pointer (some ⟨0,l,none⟩)) w')/\Y<4294967296/\Y=Zm X:=by
 have hl:X % 16<16:=Nat.mod_lt _ (by decide);refine ⟨X / 16,X % 16,Zm X,by omega,by omega,hT _ hl,?_,ajm _ hl,V9 hX,rfl⟩;rw [u32_xor_nat _ _ (by omega) (V9 (by omega)),<-adD]
theorem adx (s:Nat) (hs:s<4294967296) (A:Option Addr) (n c:Nat) (xs:List UInt8) (w:World) (hr:Reads w w.heap.size 1 A n (u8s xs)) (hn:n<=maxLen) (hT:CTab w) :
  Calls Tryz.prog 115 #[.int .u32 (s:Int),.slice A n c] w fun e w'=>e=.returned (.int .u32 ((aey s xs:Nat):Int))/\w=w':=by
 have Hr:=za hr;have HT:=za hT;have Hl:=za (zh hr);have hn63:n<=9223372036854775807:=by simp only [maxLen] at hn;omega
 clear hr hT hn;have hx1:=Yx s hs;go_enter Tryz.func115,Tryz.ntmps115;go_wp2;go_loopw [5,12] (fun r i wr=>∃ j:Nat,j<=n/\i=.int .i64 (j:Int)/\r=.int .u32 ((VD (4294967295-s) (xs.take j):Nat):Int)/\wr=w) (fun _ i _=>n-(intOf i).toNat)
 case atStart=>exact ⟨0,Nat.zero_le _,rfl,rfl,rfl⟩
 case round=>
  obtain ⟨j,hj,rfl,rfl,rfl⟩:=hrel;have hlt0:=abP (r:=4294967295-s) (by omega) (xs.take j);obtain ⟨R,hR⟩:∃ R,R=VD (4294967295-s) (xs.take j):=⟨_,rfl⟩;rw [<-hR] at hlt0 ⊢;have HR:=za hR;clear hR;by_cases hlt:j<n
  ·obtain ⟨ad,v,rfl,hbk,hu,hcell⟩:=Hr.out.at_ hlt;obtain ⟨x,hx,rfl⟩:=Jn _ _ _ hu;have Hx:=za hx;clear hx hu hbk;have hxl:=x.toNat_lt;have e1:(x.toNat:Int) % 4294967296=(x.toNat:Int):=(by omega);have e2:=u32_xor_nat R x.toNat hlt0 (by omega);obtain ⟨X,hX⟩:∃ X,X=R ^^^ x.toNat:=⟨_,rfl⟩;have hXl:X<4294967296:=(by rw [hX];exact aeU hlt0 x);rw [<-hX] at e2;obtain ⟨q,l,Y,e3,e4,c1,e5,hl,hYl,hYX⟩:=abf wr X hXl HT.out;obtain ⟨q2,l2,Z,e6,e7,c2,e8,hl2,hZl,hZY⟩:=abf wr Y hYl HT.out
   have HE:=za (show Z=VD (4294967295-s) (xs.take (j+1)) by
    rw [List.take_add_one,Hx.out,Jd,<-HR.out,hZY,hYX,hX];rfl)
   clear hX hYX hZY;go_wp2;go_roundw;case rel=>exact ⟨j+1,by omega,by go_num,by rw [HE.out],trivial⟩
   case measure=>simp [intOf];omega
  obtain rfl:j=n:=by omega
  have hx2:=Yx R hlt0;have HE:=za (show 4294967295-R=aey s xs by rw [HR.out,List.take_of_length_le (by rw [Hl.out];exact Nat.le_refl _)];rfl);rw [HE.out] at hx2;go_wp2;go_ret;exact ⟨rfl,rfl⟩
end
section
open Go.RowKit
theorem aat (A:Option Addr) (n c:Nat) (xs:List UInt8) (w:World) (hr:Reads w w.heap.size 1 A n (u8s xs)) (hn:n<=maxLen) (hT:CTab w) :
  Calls Tryz.prog 49 #[.slice A n c] w fun e w'=>e=.returned (.int .u32 ((zZ xs:Nat):Int))/\w=w':=by
 have Hr:=za hr;have HT:=za hT;have cU:Calls Tryz.prog 115 #[.int .u32 0,.slice A n c] w _:=adx 0 (by decide) A n c xs w Hr.out hn HT.out;have CU:=za cU;clear hr hT cU;go_enter Tryz.func49,Tryz.ntmps49;go_wp2_with fail
 with_reducible refine CU.out.mono ?_
 rintro e w1 ⟨rfl,rfl⟩;go_wp2;go_ret;exact ⟨rfl,rfl⟩
theorem afH (r b:Nat) (hr:r<4294967296) (hb:b<2) (w:World) :
  Calls Tryz.prog 227 #[.int .u32 (r:Int),.int .u32 (b:Int)] w fun e w'=>e=.returned (.int .u32 ((XM r b:Nat):Int))/\w=w':=by
 obtain ⟨m,hm⟩:∃ m:Nat,(r:Int) % 2=(m:Int):=⟨r % 2,by omega⟩;obtain ⟨q,hq⟩:∃ q:Nat,(r:Int) / 2=(q:Int):=⟨r / 2,by omega⟩;have hqq:q=r / 2:=by omega
 have hmm:m=r % 2:=by omega
 by_cases h:m=b
 ·have d1:((m:Int) != (b:Int))=false:=by simp [h]
  have HS:=za (show XM r b=q by unfold XM;rw [if_neg (by omega),Nat.xor_zero,hqq]);clear hqq hmm h;go_enter Tryz.func227,Tryz.ntmps227;go_wp2;go_ret;rw [HS.out];exact ⟨rfl,rfl⟩
 have d1:((m:Int) != (b:Int))=true:=by simp;omega
 have hx:=u32_xor_nat q 2197175160 (by omega) (by decide);have hx2:bits .xor .u32 (q:Int) 2197175160=((q ^^^ 2197175160:Nat):Int):=hx;obtain ⟨Y,hY⟩:∃ Y,Y=q ^^^ 2197175160:=⟨_,rfl⟩;rw [<-hY] at hx2;have HS:=za (show XM r b=Y by unfold XM;rw [if_pos (by omega),<-hqq,hY];rfl);clear hqq hmm h hx hY;go_enter Tryz.func227,Tryz.ntmps227;go_wp2;go_ret;rw [HS.out];exact ⟨rfl,rfl⟩
theorem afG (r:Nat) (hr0:r<4294967296) (A:Option Addr) (n c:Nat) (xs:List UInt8) (w:World) (hr:Reads w w.heap.size 1 A n (u8s xs)) (hn:n<=maxLen) :
  Calls Tryz.prog 173 #[.int .u32 (r:Int),.slice A n c] w fun e w'=>e=.returned (.int .u32 ((VD r xs:Nat):Int))/\w=w':=by
 have Hr:=za hr;have Hl:=za (zh hr);have hn63:n<=9223372036854775807:=by simp only [maxLen] at hn;omega
 clear hr hn;go_enter Tryz.func173,Tryz.ntmps173;go_wp2;go_loopw [0,5] (fun r' i wr=>∃ j:Nat,j<=n/\i=.int .i64 (j:Int)/\r'=.int .u32 ((VD r (xs.take j):Nat):Int)/\wr=w) (fun _ i _=>n-(intOf i).toNat)
 case atStart=>exact ⟨0,Nat.zero_le _,rfl,rfl,rfl⟩
 case round=>
  obtain ⟨j,hj,rfl,rfl,rfl⟩:=hrel;have hlt0:=abP hr0 (xs.take j);obtain ⟨R,hR⟩:∃ R,R=VD r (xs.take j):=⟨_,rfl⟩;rw [<-hR] at hlt0 ⊢;have HR:=za hR;clear hR;by_cases hlt:j<n
  ·obtain ⟨ad,v,rfl,hbk,hu,hcell⟩:=Hr.out.at_ hlt;obtain ⟨x,hx,rfl⟩:=Jn _ _ _ hu;have Hx:=za hx;clear hx hu hbk;have hxl:=x.toNat_lt;have e1:(x.toNat:Int) % 4294967296=(x.toNat:Int):=(by omega);have d1:decide ((j:Int)<(n:Int))=true:=(by simp;omega);go_wp2;go_loopw [0,6,7] (fun r' c' k' wr'=>∃ k:Nat,k<=8/\k'=.int .i64 (k:Int)/\c'=.int .u32 ((x.toNat / 2 ^ k:Nat):Int)/\r'=.int .u32 ((YL R x.toNat k:Nat):Int)/\wr'=wr) (fun _ _ k _=>8-(intOf k).toNat)
   case atStart=>exact ⟨0,by omega,rfl,by simp,rfl,rfl⟩
   case round=>
    obtain ⟨k,hk,rfl,rfl,rfl,hwr⟩:=hrel;subst hwr;have hSl:=afx hlt0 x.toNat k;have hcl:x.toNat / 2 ^ k<256:=Nat.lt_of_le_of_lt (Nat.div_le_self _ _) hxl;obtain ⟨C,hC⟩:∃ C,C=x.toNat / 2 ^ k:=⟨_,rfl⟩;obtain ⟨T,hTT⟩:∃ T,T=YL R x.toNat k:=⟨_,rfl⟩;rw [<-hC] at hcl ⊢;rw [<-hTT] at hSl ⊢;obtain ⟨m,hm⟩:∃ m:Nat,(C:Int) % 2=(m:Int):=⟨C % 2,by omega⟩;obtain ⟨q,hq⟩:∃ q:Nat,(C:Int) / 2=(q:Int):=⟨C / 2,by omega⟩;by_cases hk8:k<8
    ·have d2:decide ((k:Int)<8)=true:=by simp;omega
     have HN:=za (show XM T m=YL R x.toNat (k+1)/\q=x.toNat / 2 ^ (k+1) by
      refine ⟨?_,?_⟩
      ·rw [YL,<-hTT,<-hC,show m=C % 2 by omega]
      rw [Nat.pow_succ,<-Nat.div_div_eq_div_mul,<-hC];omega)
     have hm2:m<2:=(by omega);clear hC hTT;(go_wp2_with fail);(with_reducible refine (afH T m hSl hm2 _).mono ?_);rintro e w1 ⟨rfl,rfl⟩;rw [HN.out.1];go_wp2;go_roundw;case rel=>exact ⟨k+1,by omega,by go_num,by rw [<-HN.out.2],rfl,trivial⟩
     case measure=>simp [intOf];omega
    obtain rfl:k=8:=by omega
    have HN:=za (show T=VD r (xs.take (j+1)) by
     rw [hTT,aeH,List.take_add_one,Hx.out,Jd,<-HR.out];rfl)
    clear hC hTT;rw [HN.out];go_wp2;go_roundw;case rel=>exact ⟨j+1,by omega,by go_num,rfl,trivial⟩
    case measure=>simp [intOf];omega
  obtain rfl:j=n:=by omega
  have HE:=za (show R=VD r xs by rw [HR.out,List.take_of_length_le (by rw [Hl.out];exact Nat.le_refl _)]);rw [HE.out];go_wp2;go_ret;exact ⟨rfl,rfl⟩
theorem acd (s:Nat) (hs:s<4294967296) (A:Option Addr) (n c:Nat) (xs:List UInt8) (w:World) (hr:Reads w w.heap.size 1 A n (u8s xs)) (hn:n<=maxLen) :
  Calls Tryz.prog 123 #[.int .u32 (s:Int),.slice A n c] w fun e w'=>e=.returned (.int .u32 ((aey s xs:Nat):Int))/\w=w':=by
 have Hr:=za hr;clear hr;have hx1:=Yx s hs;obtain ⟨s2,hs2⟩:∃ s2,s2=4294967295-s:=⟨_,rfl⟩;have hl:=abP (r:=s2) (by omega) xs;have HU:=za (show 4294967295-VD s2 xs=aey s xs by rw [hs2];rfl);rw [<-hs2] at hx1;have hx2:=Yx (VD s2 xs) hl;rw [HU.out] at hx2;have h2:s2<4294967296:=by omega
 clear hs2;go_enter Tryz.func123,Tryz.ntmps123;go_wp2_with fail
 with_reducible refine (afG s2 h2 A n c xs w Hr.out hn).mono ?_
 rintro e w1 ⟨rfl,rfl⟩;go_wp2;go_ret;exact ⟨rfl,rfl⟩
theorem JD (s:Nat):u8s (yj s)=[.int .u8 ((s % 256:Nat):Int),.int .u8 ((s / 256 % 256:Nat):Int),.int .u8 ((s / 65536 % 256:Nat):Int),.int .u8 ((s / 16777216 % 256:Nat):Int)]:=by
 simp only [u8s,yj,List.map_cons,List.map_nil,UInt8.toNat_ofNat']
def aiJ (s:Nat) (w:World) (e:Ending) (w':World):Prop:=
 ∃ g,e=.returned (.slice (some ⟨g,0,none⟩) 4 4)/\g=w.heap.size/\w'.ownsRow w.heap.size 5 1 (.slice (some ⟨g,0,none⟩) 4 4) 4 (u8s (yj s))/\Below w.heap.size w w'
theorem Ur (s:Nat) (w:World) (a b c d:Int) (ha:a=((s % 256:Nat):Int)) (hb:b=((s / 256 % 256:Nat):Int)) (hc:c=((s / 65536 % 256:Nat):Int)) (hd:d=((s / 16777216 % 256:Nat):Int)) :
  aiJ s w (.returned (.slice (some ⟨w.heap.size,0,none⟩) 4 4)) (w.alloc (.cells #[.int .u8 a,.int .u8 b,.int .u8 c,.int .u8 d] 5)):=by
 subst ha hb hc hd;refine ⟨_,rfl,rfl,?_,(Below.refl _ _).alloc (Nat.le_refl _) _⟩;exact (Blk.new w 5 _).own (n:=4) (xs:=u8s (yj s)) (Nat.le_refl _) (by rw [JD]) rfl (by decide)
theorem JR (s:Nat) (hs:s<4294967296) (w:World) :
  Calls Tryz.prog 63 #[.int .u32 (s:Int)] w (aiJ s w):=by
 go_enter Tryz.func63,Tryz.ntmps63;go_wp2;go_ret;refine Ur s w _ _ _ _ ?_ ?_ ?_ ?_<;>omega
theorem Ux (A:Option Addr) (n c:Nat) (xs:List UInt8) (w:World) (hr:Reads w w.heap.size 1 A n (u8s xs)) (hn:n<=maxLen) (hT:CTab w) :
  Calls Tryz.prog 45 #[.slice A n c] w (aiJ (zZ xs) w):=by
 have Hr:=za hr;have HT:=za hT;clear hr hT;have hs:zZ xs<4294967296:=Uu 0 xs;have CS:=za (aat A n c xs w Hr.out hn HT.out);generalize zZ xs=s at hs CS ⊢;go_enter Tryz.func45,Tryz.ntmps45;go_wp2_with fail
 with_reducible refine CS.out.mono ?_
 rintro e w1 ⟨rfl,rfl⟩;go_wp2;go_ret;refine Ur s w _ _ _ _ ?_ ?_ ?_ ?_<;>omega
end
section
section
variable {P:Program} {ops:Array Oper} {Q:Exit->Act->World->Prop} {S:World->Prop}
theorem hP8 {i:Nat} {o:Oper} {d:Tmp} {rest:List (Nat×Bool)} {a g:Act} {w:World} {v:Value} {C0:World->Prop} {C1:World->Prop} {C2:World->Prop} {C3:World->Prop} {C4:World->Prop} {C5:World->Prop} {C6:World->Prop} {C7:World->Prop} (hS:S w) (c0:∀ w,S w->C0 w) (c1:∀ w,S w->C1 w) (c2:∀ w,S w->C2 w) (c3:∀ w,S w->C3 w) (c4:∀ w,S w->C4 w) (c5:∀ w,S w->C5 w) (c6:∀ w,S w->C6 w) (c7:∀ w,S w->C7 w) (h:zI P ops Q S rest g w) (ho:ops[i]? = some o:=by exact rfl) (hd:o.dst=some d:=by exact rfl) (hw:Region.wanted o (yielded ops a.tmps)=true:=by simp [Region.wanted,yielded])
  (hy:∀ w,S w->C0 w->C1 w->C2 w->C3 w->C4 w->C5 w->C6 w->C7 w->(execOp a.eval o).run P w=.ok (.value v) w:=by intro w hw c0 c1 c2 c3 c4 c5 c6 c7;clear hw;go_simp;try with_reducible rfl) (hg:Act.mk (a.tmps.setIfInBounds d v) a.defers=g:=by (try simp only [zp])<;>exact rfl):zI P ops Q S ((i,false)::rest) a w:=by
 subst hg;exact qE ho hd hw hS (fun w hw=>hy w hw (c0 w hw) (c1 w hw) (c2 w hw) (c3 w hw) (c4 w hw) (c5 w hw) (c6 w hw) (c7 w hw)) h
theorem hP9 {i:Nat} {o:Oper} {d:Tmp} {rest:List (Nat×Bool)} {a g:Act} {w:World} {v:Value} {C0:World->Prop} {C1:World->Prop} {C2:World->Prop} {C3:World->Prop} {C4:World->Prop} {C5:World->Prop} {C6:World->Prop} {C7:World->Prop} {C8:World->Prop} (hS:S w) (c0:∀ w,S w->C0 w) (c1:∀ w,S w->C1 w) (c2:∀ w,S w->C2 w) (c3:∀ w,S w->C3 w) (c4:∀ w,S w->C4 w) (c5:∀ w,S w->C5 w) (c6:∀ w,S w->C6 w) (c7:∀ w,S w->C7 w) (c8:∀ w,S w->C8 w) (h:zI P ops Q S rest g w) (ho:ops[i]? = some o:=by exact rfl) (hd:o.dst=some d:=by exact rfl) (hw:Region.wanted o (yielded ops a.tmps)=true:=by simp [Region.wanted,yielded])
  (hy:∀ w,S w->C0 w->C1 w->C2 w->C3 w->C4 w->C5 w->C6 w->C7 w->C8 w->(execOp a.eval o).run P w=.ok (.value v) w:=by intro w hw c0 c1 c2 c3 c4 c5 c6 c7 c8;clear hw;go_simp;try with_reducible rfl) (hg:Act.mk (a.tmps.setIfInBounds d v) a.defers=g:=by (try simp only [zp])<;>exact rfl):zI P ops Q S ((i,false)::rest) a w:=by
 subst hg;exact qE ho hd hw hS (fun w hw=>hy w hw (c0 w hw) (c1 w hw) (c2 w hw) (c3 w hw) (c4 w hw) (c5 w hw) (c6 w hw) (c7 w hw) (c8 w hw)) h
end
end
section
open Go.RowKit
theorem acl (A:Option Addr) (n c:Nat) (xs:List UInt8) (B:Option Addr) (m c2:Nat) (l:List ByteArray) (w:World) (hr:Reads w w.heap.size 1 A n (u8s xs))
  (hr2:Reads w w.heap.size 1 B m (txs l)) (hm:m<=1099511627776) (htot:(xs++qK l).length<=1099511627776) :
  Calls Tryz.prog 192 #[.slice A n c,.slice B m c2] w (aiE (xs++qK l) w):=by
 obtain ⟨i0,hi0,hz0,hz1,hz2⟩:=info_parts z7;have hst:=JU l xs;have Hlen2:=za (agS hr2);have hsl:=qS l;have hsm:=Yz l;generalize hT:xs++qK l=tot at hst htot ⊢;have Hst:=za hst;have Hsm:=za hsm;clear hT hst hsm;go_enter Tryz.func192,Tryz.ntmps192;go_wp2_with fail
 with_reducible refine (abD B m c2 l _ hr2 hm).mono ?_
 rintro e w1 ⟨A1,c3,A2,c4,rfl,g1,g2,g3,g4,o1,o2,hb1⟩;have r1:=ze o1;have r2:=ze o2;have hr1:=hr.on hb1;have hlx:=zh hr;have hnl:l.length=m:=Hlen2.out;rw [hnl] at g3 r2 hsl;simp only [hnl];obtain ⟨hsl1,hsl2⟩:=hsl;have HNS:=za hsl2;generalize (zj l).2=ns at r2 Hst Hsm HNS;have hd0:(zj l).1.length<18446744073709551616:=by omega
 generalize (zj l).1=d at r1 Hst hsl1 g1 Hsm hd0 ⊢;clear o1 o2 hnl hsl2 hr hr2;have hnt:n<=1099511627776:=by have h:=congrArg List.length Hst.out;simp only [List.length_append] at h;omega
 clear hlx;have hdm:d.length<=1099511627776:=by omega
 go_wp2_with fail
 with_reducible refine (yk A n c d.length xs _ hr1 hnt hd0).mono ?_
 rintro e w2 ⟨A3,c5,rfl,hc5,hd5,o3,hb2⟩;have Hl3:=za (zh (ze o3));go_wp2
 go_loopw [7,8] (fun v i wr=>∃ (k q:Nat) (Aq:Option Addr) (cq:Nat) (cur:List UInt8),k<=d.length/\q<=cq/\cq<=maxLen/\i=.int .i64 (k:Int)/\v=.slice Aq q cq/\Hid (aaD d ns tot k cur) /\
  wr.ownsRow w1.heap.size 5 1 (.slice Aq q cq) q (u8s cur)/\Below w1.heap.size w1 wr) (fun _ i _=>d.length-(intOf i).toNat)
 case atStart=>exact ⟨0,_,A3,c5,_,Nat.zero_le _,hc5,hd5,rfl,rfl,Hst,o3,hb2⟩
 case round=>
  clear o3 hb2 Hl3 hc5;obtain ⟨k,q,Aq,cq,cur,hk,hq1,hq2,rfl,rfl,hp,hown,hB⟩:=hrel;have Hq:=za (zh (ze hown));by_cases hlt:k<d.length
  ·obtain ⟨ad,v,rfl,hbk,hx,hcell⟩:=r1.at_ hlt;rw [<-hB.cell (p:=ad.add k) (by rw [zg];exact hbk)] at hcell;obtain ⟨s,hs',rfl⟩:=Xf _ _ _ hx;obtain ⟨hp2,hle⟩:=aa0 hp.out hs';have hql:cur.length=q:=Hq.out;rw [hql] at hle;have hss:s.size<18446744073709551616:=(by rw [<-Zx];omega);have hq0:q<=1099511627776:=(by omega);have hbl:=Zx s;have Hp2:=za hp2;have hbs:=hB.size;have Hbl:=za hbl;rw [hbl] at hle;clear hx hs' hp2 hp hql hbl;have hss2:s.size<=9223372036854775807:=(by omega);go_wp2;have hS:=hB.drew;have hL:∀ w',Below w1.heap.size w1 w'->w'.cell? (ad.add k)=some (.string s):=fun w' h=>by
    rw [h.cell (p:=ad.add k) (by rw [zg];exact hbk)];rwa [hB.cell (p:=ad.add k) (by rw [zg];exact hbk)] at hcell
   have HL:=za hL;clear hL hcell;refine hR (Below w1.heap.size w1) [0,1,2,3,4,5,6,8,9,10,11,tt 7,tt 12,13] ?_;(iterate 4 refine hP hS ?_);refine hP1 hS HL.out ?_;(iterate 5 refine hP hS ?_);refine hP1 hS HL.out ?_;refine hE fun K hK=>?_;go_simp;rw [ab3 _ hss];(with_reducible refine (yk Aq q cq s.size cur _ (ze hown).drew hq0 hss).mono ?_);rintro e w3 ⟨A6,c6,rfl,hc6,hd6,o6,hb3⟩;replace o6:=zi o6 hbs;have hB3:=hB.drew.trans (hb3.mono hbs);have hbase3:=hB3.size;have hs63:q+(leb s.size).length+s.data.toList.length<=70368744177664:=by
    have:=Hbl.out;unfold bts at this;omega
   refine hG hK (by exact hB3) fun hS=>?_;clear hK K;refine hE fun K hK=>?_;refine YG (.tmp 33) (.tmp 37) 35 9 rfl w1.heap.size 5 i0 Tryz.underlying35 Tryz.underlying9 hi0 hz0 hz1 hz2 A6 _ c6 _ rfl o6 s rfl hs63 hbase3 ?_;intro A7 c7 w7 o7 hb7 hg7 hc7 hd7;refine hG hK (by exact hB3.trans hb7) fun hS=>?_;clear hK K;refine hP hS ?_;refine zc ?_;go_wp2;have hB7:=hB3.trans hb7;have Hp3:Hid (aaD d ns tot (k+1) (cur++leb s.size++s.data.toList)):=by
    have:=Hp2.out;rw [Hbl.out] at this;exact this
   go_roundw;case rel=>exact ⟨k+1,_,A7,c7,_,by omega,hc7,hd7,by go_num,rfl,Hp3,o7,hB7⟩
   case measure=>simp [intOf];omega
  have hkd:k=d.length:=by omega
  subst hkd;have Hp0:=za (acp hp.out);clear hp;go_wp2
  go_loopw [7,9] (fun v i wr=>∃ (k q:Nat) (Aq:Option Addr) (cq:Nat) (cur:List UInt8),k<=m/\q<=cq/\cq<=maxLen/\i=.int .i64 (k:Int)/\v=.slice Aq q cq/\Hid (adq ns tot k cur) /\
   wr.ownsRow w1.heap.size 5 1 (.slice Aq q cq) q (u8s cur)/\Below w1.heap.size w1 wr) (fun _ i _=>m-(intOf i).toNat)
  case atStart=>exact ⟨0,_,Aq,cq,_,Nat.zero_le _,hq1,hq2,rfl,rfl,Hp0,hown,hB⟩
  case round=>
   clear hown hB Hq hq1;obtain ⟨k,q,Aq,cq,cur,hk,hq1,hq2,rfl,rfl,hp,hown,hB⟩:=hrel;have Hq:=za (zh (ze hown));by_cases hlt:k<m
   ·obtain ⟨ad,v,rfl,hbk,hx,hcell⟩:=r2.at_ hlt;rw [<-hB.cell (p:=ad.add k) (by rw [zg];exact hbk)] at hcell;obtain ⟨y,hs',rfl⟩:=ae3 _ _ _ hx;obtain ⟨hp2,hle⟩:=aaZ hp.out hs';have hql:cur.length=q:=Hq.out;rw [hql] at hle;have hy:=Hsm.out y (List.mem_of_getElem? hs');have hy0:y<18446744073709551616:=(by omega);have hy1:y<=9223372036854775807:=(by omega);have hq0:q<=1099511627776:=(by omega);have Hp2:=za hp2;have hbs:=hB.size;clear hx hs' hp2 hp hql;(go_wp2_with fail);(with_reducible refine (yk Aq q cq y cur _ (ze hown) hq0 hy0).mono ?_);rintro e w3 ⟨A6,c6,rfl,hc6,hd6,o6,hb3⟩;replace o6:=zi o6 hbs;have hB3:=hB.trans (hb3.mono hbs);go_wp2;go_roundw;case rel=>exact ⟨k+1,_,A6,c6,_,by omega,hc6,hd6,by go_num,rfl,Hp2,o6,hB3⟩
    case measure=>simp [intOf];omega
   have hkm:k=ns.length:=(by have:=HNS.out;omega);have hp0:=hp.out;rw [hkm] at hp0;have Hp0:=za (aco hp0);clear hp0 hp hkm;go_wp2;go_ret;have hcur:=Hp0.out;have hql:=Hq.out;subst hcur hql;exact ⟨Aq,cq,rfl,hq1,hq2,zi hown hb1.size,hb1.trans (hB.mono hb1.size)⟩
end
section
open Go.RowKit
theorem JN (k:Int) (nl:Bool) (w:World):Calls Tryz.prog 146 #[.agg #[.int .i64 k,.bool nl]] w fun e w'=>e=.returned (.bool (yZ k))/\Below w.heap.size w w':=by
 unfold yZ;by_cases h1:1<=k
 ·have d1:decide (1<=k)=true:=decide_eq_true h1;by_cases h2:k<=5
  ·have d2:decide (k<=5)=true:=decide_eq_true h2;rw [decide_eq_true (by omega:1<=k/\k<=5)];go_enter Tryz.func146,Tryz.ntmps146;go_wp2;go_ret;exact ⟨rfl,(Below.refl _ _).alloc (Nat.le_refl _) _⟩
  have d2:decide (k<=5)=false:=decide_eq_false h2;rw [decide_eq_false (by omega:¬(1<=k/\k<=5))];go_enter Tryz.func146,Tryz.ntmps146;go_wp2;go_ret;exact ⟨rfl,(Below.refl _ _).alloc (Nat.le_refl _) _⟩
 have d1:decide (1<=k)=false:=decide_eq_false h1;rw [decide_eq_false (by omega:¬(1<=k/\k<=5))];go_enter Tryz.func146,Tryz.ntmps146;go_wp2;go_ret;exact ⟨rfl,(Below.refl _ _).alloc (Nat.le_refl _) _⟩
def ofB (k:Int) (nl:Bool) (c:Cl):Bool:=if c.1 then nl&&decide (c.2.1=0/\c.2.2=⟨#[]⟩) else isC k c
abbrev K9 (n:Int):Prop := -9223372036854775808<=n/\n<=9223372036854775807
theorem ag4 (k:Int) (nl:Bool) (n:Int) (s:ByteArray) (w:World):Calls Tryz.prog 191 #[.agg #[.int .i64 k,.bool nl],.agg #[.bool true,.int .i64 n,.string s]] w fun e w'=>e=.returned (.bool (ofB k nl (true,n,s)))/\Below w.heap.size w w':=by
 cases nl with
 | false=>
  rw [show ofB k false (true,n,s)=false from rfl];go_enter Tryz.func191,Tryz.ntmps191;go_wp2;go_ret;exact ⟨rfl,((Below.refl _ _).alloc (Nat.le_refl _) _).alloc (by simp) _⟩
 | true=>
  by_cases hn:n=0
  ·subst hn;by_cases hs:s=⟨#[]⟩
   ·subst hs;rw [show ofB k true (true,0,⟨#[]⟩)=true by simp [ofB]];go_enter Tryz.func191,Tryz.ntmps191;go_wp2;go_ret;exact ⟨rfl,((Below.refl _ _).alloc (Nat.le_refl _) _).alloc (by simp) _⟩
   have hss:=Xb hs;rw [show ofB k true (true,0,s)=false by simp [ofB,hs]];go_enter Tryz.func191,Tryz.ntmps191;go_wp2;go_ret;exact ⟨rfl,((Below.refl _ _).alloc (Nat.le_refl _) _).alloc (by simp) _⟩
  have hnn:(n==0)=false:=by simpa using hn
  rw [show ofB k true (true,n,s)=false by simp [ofB,hn]];go_enter Tryz.func191,Tryz.ntmps191;go_wp2;go_ret;exact ⟨rfl,((Below.refl _ _).alloc (Nat.le_refl _) _).alloc (by simp) _⟩
theorem aiT (nl:Bool) (n:Int) (s:ByteArray) (w:World):Calls Tryz.prog 191 #[.agg #[.int .i64 1,.bool nl],.agg #[.bool false,.int .i64 n,.string s]] w fun e w'=>e=.returned (.bool (ofB 1 nl (false,n,s)))/\Below w.heap.size w w':=by
 by_cases hs:s=⟨#[]⟩
 ·subst hs;by_cases h0:n=0
  ·subst h0;rw [show ofB 1 nl (false,0,⟨#[]⟩)=true by simp [ofB,isC]];go_enter Tryz.func191,Tryz.ntmps191;go_wp2;go_ret;exact ⟨rfl,((Below.refl _ _).alloc (Nat.le_refl _) _).alloc (by simp) _⟩
  have hn0:(n==0)=false:=by simpa using h0
  by_cases h1:n=1
  ·subst h1;rw [show ofB 1 nl (false,1,⟨#[]⟩)=true by simp [ofB,isC]];go_enter Tryz.func191,Tryz.ntmps191;go_wp2;go_ret;exact ⟨rfl,((Below.refl _ _).alloc (Nat.le_refl _) _).alloc (by simp) _⟩
  have hn1:(n==1)=false:=by simpa using h1
  rw [show ofB 1 nl (false,n,⟨#[]⟩)=false by simp [ofB,isC];omega];go_enter Tryz.func191,Tryz.ntmps191;go_wp2;go_ret;exact ⟨rfl,((Below.refl _ _).alloc (Nat.le_refl _) _).alloc (by simp) _⟩
 have hss:=Xb hs;rw [show ofB 1 nl (false,n,s)=false by simp [ofB,isC,hs]];go_enter Tryz.func191,Tryz.ntmps191;go_wp2;go_ret;exact ⟨rfl,((Below.refl _ _).alloc (Nat.le_refl _) _).alloc (by simp) _⟩
theorem aiS (nl:Bool) (n:Int) (s:ByteArray) (w:World):Calls Tryz.prog 191 #[.agg #[.int .i64 2,.bool nl],.agg #[.bool false,.int .i64 n,.string s]] w fun e w'=>e=.returned (.bool (ofB 2 nl (false,n,s)))/\Below w.heap.size w w':=by
 by_cases hs:s=⟨#[]⟩
 ·subst hs;by_cases h0 : -2147483648<=n
  ·have d0:decide (-2147483648<=n)=true:=decide_eq_true h0;rw [show ofB 2 nl (false,n,⟨#[]⟩)=decide (n<=2147483647) by simp [ofB,isC,h0]];go_enter Tryz.func191,Tryz.ntmps191;go_wp2;go_ret;exact ⟨rfl,((Below.refl _ _).alloc (Nat.le_refl _) _).alloc (by simp) _⟩
  have d0:decide (-2147483648<=n)=false:=decide_eq_false h0;rw [show ofB 2 nl (false,n,⟨#[]⟩)=false by simp [ofB,isC];omega];go_enter Tryz.func191,Tryz.ntmps191;go_wp2;go_ret;exact ⟨rfl,((Below.refl _ _).alloc (Nat.le_refl _) _).alloc (by simp) _⟩
 have hss:=Xb hs;rw [show ofB 2 nl (false,n,s)=false by simp [ofB,isC,hs]];go_enter Tryz.func191,Tryz.ntmps191;go_wp2;go_ret;exact ⟨rfl,((Below.refl _ _).alloc (Nat.le_refl _) _).alloc (by simp) _⟩
theorem afL (nl:Bool) (n:Int) (s:ByteArray) (w:World) (hn:K9 n):Calls Tryz.prog 191 #[.agg #[.int .i64 3,.bool nl],.agg #[.bool false,.int .i64 n,.string s]] w fun e w'=>e=.returned (.bool (ofB 3 nl (false,n,s)))/\Below w.heap.size w w':=by
 obtain ⟨h1,h2⟩:=hn;by_cases hs:s=⟨#[]⟩
 ·subst hs;rw [show ofB 3 nl (false,n,⟨#[]⟩)=true by simp [ofB,isC];omega];clear h1 h2;go_enter Tryz.func191,Tryz.ntmps191;go_wp2;go_ret;exact ⟨rfl,((Below.refl _ _).alloc (Nat.le_refl _) _).alloc (by simp) _⟩
 have hss:=Xb hs;rw [show ofB 3 nl (false,n,s)=false by simp [ofB,isC,hs]];clear h1 h2;go_enter Tryz.func191,Tryz.ntmps191;go_wp2;go_ret;exact ⟨rfl,((Below.refl _ _).alloc (Nat.le_refl _) _).alloc (by simp) _⟩
theorem ag6 (nl:Bool) (n:Int) (s:ByteArray) (w:World):Calls Tryz.prog 191 #[.agg #[.int .i64 5,.bool nl],.agg #[.bool false,.int .i64 n,.string s]] w fun e w'=>e=.returned (.bool (ofB 5 nl (false,n,s)))/\Below w.heap.size w w':=by
 by_cases hn:n=0
 ·subst hn;have hv:ofB 5 nl (false,0,s)=decide (s.size<=1024):=by simp [ofB,isC,Zd]
  rw [hv];clear hv;by_cases hs:s.size<=1024
  ·have d1:decide ((s.size:Int)<=1024)=true:=(by simp;omega);rw [decide_eq_true hs];go_enter Tryz.func191,Tryz.ntmps191;go_wp2;go_ret;exact ⟨rfl,((Below.refl _ _).alloc (Nat.le_refl _) _).alloc (by simp) _⟩
  have d1:decide ((s.size:Int)<=1024)=false:=by simp;omega
  rw [decide_eq_false hs];go_enter Tryz.func191,Tryz.ntmps191;go_wp2;go_ret;exact ⟨rfl,((Below.refl _ _).alloc (Nat.le_refl _) _).alloc (by simp) _⟩
 have hnn:(n==0)=false:=by simpa using hn
 rw [show ofB 5 nl (false,n,s)=false by simp [ofB,isC,Zd,hn]];go_enter Tryz.func191,Tryz.ntmps191;go_wp2;go_ret;exact ⟨rfl,((Below.refl _ _).alloc (Nat.le_refl _) _).alloc (by simp) _⟩
theorem ag5 (nl:Bool) (n:Int) (s:ByteArray) (w:World):Calls Tryz.prog 191 #[.agg #[.int .i64 4,.bool nl],.agg #[.bool false,.int .i64 n,.string s]] w fun e w'=>e=.returned (.bool (ofB 4 nl (false,n,s)))/\Below w.heap.size w w':=by
 by_cases hn:n=0
 ·subst hn;by_cases hs:s.size<=1024
  ·have d1:decide ((s.size:Int)<=1024)=true:=(by simp;omega);have hv:ofB 4 nl (false,0,s)=Lib.validD s.data.toList:=(by simp [ofB,isC,Zd,hs]);rw [hv];clear hv;have hss:s.size<=maxLen:=Nat.le_trans hs (by decide);have HS:=za hss;clear hss;go_enter Tryz.func191,Tryz.ntmps191;(go_wp2_with fail);(with_reducible refine (adw s _ HS.out).mono ?_);rintro e w2 ⟨rfl,hb2⟩;go_wp2;go_ret;exact ⟨rfl,bon (((Below.refl _ _).alloc (Nat.le_refl _) _).alloc (by simp) _) hb2⟩
  have d1:decide ((s.size:Int)<=1024)=false:=by simp;omega
  rw [show ofB 4 nl (false,0,s)=false by simp [ofB,isC,Zd,hs]];go_enter Tryz.func191,Tryz.ntmps191;go_wp2;go_ret;exact ⟨rfl,((Below.refl _ _).alloc (Nat.le_refl _) _).alloc (by simp) _⟩
 have hnn:(n==0)=false:=by simpa using hn
 rw [show ofB 4 nl (false,n,s)=false by simp [ofB,isC,Zd,hn]];go_enter Tryz.func191,Tryz.ntmps191;go_wp2;go_ret;exact ⟨rfl,((Below.refl _ _).alloc (Nat.le_refl _) _).alloc (by simp) _⟩
theorem aiU (k:Int) (nl:Bool) (c:Cl) (w:World) (h1:1<=k) (h5:k<=5) (hn:K9 c.2.1):Calls Tryz.prog 191 #[.agg #[.int .i64 k,.bool nl],clV c] w fun e w'=>e=.returned (.bool (ofB k nl c))/\Below w.heap.size w w':=by
 obtain ⟨nu,n,s⟩:=c;cases nu with
 | true=>exact ag4 k nl n s w
 | false=>
  rcases (show k=1\/k=2\/k=3\/k=4\/k=5 by omega) with rfl | rfl | rfl | rfl | rfl
  ·exact aiT nl n s w
  ·exact aiS nl n s w
  ·exact afL nl n s w hn
  ·exact ag5 nl n s w
  exact ag6 nl n s w
theorem ag7 (k:Int) (nl nu:Bool) (n:Int) (s:ByteArray) (w:World) (h1:1<=k) (h5:k<=5) (hn:K9 n):Calls Tryz.prog 191 #[.agg #[.int .i64 k,.bool nl],.agg #[.bool nu,.int .i64 n,.string s]] w fun e w'=>e=.returned (.bool (ofB k nl (nu,n,s)))/\Below w.heap.size w w':=aiU k nl (nu,n,s) w h1 h5 hn
theorem adW (k:Int) (nl:Bool) (c:Cl) (w:World) (hn:K9 c.2.1):Calls Tryz.prog 147 #[.agg #[.int .i64 k,.bool nl],clV c] w fun e w'=>e=.returned (.int .i64 (zw k nl c))/\Below w.heap.size w w':=by
 obtain ⟨nu,n,s⟩:=c;have Hn:=za hn;clear hn;show Calls Tryz.prog 147 #[.agg #[.int .i64 k,.bool nl],.agg #[.bool nu,.int .i64 n,.string s]] w _;have hb0:=za (show Below w.heap.size w ((w.alloc (.cells #[.int .i64 k,.bool nl] 43)).alloc (.cells #[.bool nu,.int .i64 n,.string s] 23)) from ((Below.refl _ _).alloc (Nat.le_refl _) _).alloc (by simp) _);have B2:=za ((Blk.new w 43 #[.int .i64 k,.bool nl]).alloc (.cells #[.bool nu,.int .i64 n,.string s] 23));have B3:=za (Blk.new' (w.alloc (.cells #[.int .i64 k,.bool nl] 43)) 23 #[.bool nu,.int .i64 n,.string s] (w.heap.size+1) (by simp));go_enter Tryz.func147,Tryz.ntmps147;go_wp2_with fail
 with_reducible refine (JN k nl _).mono ?_
 rintro e w1 ⟨rfl,hb1⟩;have hb2:=za (bon hb0.out hb1);replace B2:=za (B2.out.on hb1);replace B3:=za (B3.out.on hb1);clear hb1 hb0;have c20:=B2.out.cell 0;have c21:=B2.out.cell 1;have c30:=B3.out.cell 0;have c31:=B3.out.cell 1;have c32:=B3.out.cell 2;cases hm:yZ k with
 | false=>
  go_wp2;go_ret;exact ⟨by simp [zw,hm],hb2.out⟩
 | true=>
  obtain ⟨hk1,hk5⟩:1<=k/\k<=5:=by simpa [yZ] using hm
  go_wp2_with fail
  with_reducible refine (ag7 k nl nu n s _ hk1 hk5 Hn.out).mono ?_
  rintro e w2 ⟨rfl,hb3⟩;have hb4:=za (bon hb2.out hb3);have HE:=za (show zw k nl (nu,n,s)=if ofB k nl (nu,n,s) then 0 else 90 by simp [zw,hm,ofB]);clear hb3;generalize hI:ofB k nl (nu,n,s)=I at HE ⊢;cases I with
  | true=>
   go_wp2;go_ret;exact ⟨by first | (rw [HE.out];rfl) | rfl,hb4.out⟩
  | false=>
   go_wp2;go_ret;exact ⟨by first | (rw [HE.out];rfl) | rfl,hb4.out⟩
end
end Go.Proofs.YtjpjalmilfgckaaGreatDoor
