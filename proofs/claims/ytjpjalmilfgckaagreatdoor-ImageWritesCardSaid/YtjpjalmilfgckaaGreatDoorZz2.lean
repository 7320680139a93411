/- Part 2 of the walks. Conditions: each lemma states its own. -/
import Derived.Test.YtjpjalmilfgckaaGreatDoorZz1
import Derived.Lib.ValidLaws
import Derived.Lib.AppendStr
import Derived.Test.YtjpjalmilfgckaaGreatDoorRows
import Derived.Laws.BitsLemmas
import Derived.Laws.MathBits
import Derived.Lib.SlicesS
import Derived.Deep.LoopGhost
import Derived.Shelf.Unicode.ValidAny
import Derived.Test.YtjpjalmilfgckaaGreatDoorProg
import Derived.Deep.CutBlock
import Derived.Deep.DeepCutAuto
set_option maxRecDepth 100000
set_option maxHeartbeats 1000000
set_option linter.unusedVariables false
set_option linter.unusedSimpArgs false
namespace Go.Proofs.YtjpjalmilfgckaaGreatDoor
open Go.RowKit
def okR (r:Nat):Bool:=decide (r<55296\/(57343<r/\r<=1114111))
def qQ (r:Nat):List Nat:=
 if r<128 then [r] else if r<2048 then [192+r / 64,128+r % 64] else if r<65536 then [224+r / 4096,128+r / 64 % 64,128+r % 64]
 else [240+r / 262144,128+r / 4096 % 64,128+r / 64 % 64,128+r % 64]
def Zo (k a:Nat):Nat:=if k=2 then a % 32 else if k=3 then a % 16 else if k=4 then a % 8 else a
def yS (l:List Nat):Nat:=match l with
 | []=>0
 | a::r=>r.foldl (fun n b=>64*n+b % 64) (Zo (r.length+1) a)
def qq (l:List UInt8):List Nat:=l.map UInt8.toNat
@[simp] theorem ajy (l:List UInt8):(qq l).length=l.length:=by simp [qq]
def X9 (n:Nat) (l:List UInt8):Bool:=decide (n<=l.length)&&okR (yS (qq (l.take n)))&&decide (qQ (yS (qq (l.take n)))=qq (l.take n))
theorem akW (n a b c d:Nat) (ha:a<256) (h:qQ (yS [a])=[a]):Lib.decodeN n a b c d=(a,1)/\a<128:=by
 simp only [yS,Zo,List.foldl_nil,List.length_nil] at h;simp only [Nat.zero_add,Nat.reduceEqDiff,if_false] at h;have h128:a<128:=by
  unfold qQ at h
  split at h
  ·assumption
  split at h
  ·simp at h
  omega
 unfold Lib.decodeN;rw [if_pos h128];exact ⟨rfl,h128⟩
theorem akV (n a b c d:Nat) (hn:2<=n) (ha:a<256) (hb:b<256) (h:qQ (yS [a,b])=[a,b]):(Lib.decodeN n a b c d).2=2:=by
 have hr:yS [a,b]=64*(a % 32)+b % 64:=by simp [yS,Zo]
 rw [hr] at h;generalize hrr:64*(a % 32)+b % 64=r at h;unfold qQ at h
 split at h
 ·simp at h
 split at h
 ·simp only [List.cons.injEq,and_true] at h;unfold Lib.decodeN;rw [if_neg (by omega),if_pos (by omega),if_pos (by omega)]
 omega
theorem akU (n a b c d:Nat) (hn:3<=n) (ha:a<256) (hb:b<256) (hc:c<256) (ho:okR (yS [a,b,c])=true) (h:qQ (yS [a,b,c])=[a,b,c]):(Lib.decodeN n a b c d).2=3:=by
 have hr:yS [a,b,c]=64*(64*(a % 16)+b % 64)+c % 64:=by simp [yS,Zo]
 rw [hr] at h ho;generalize hrr:64*(64*(a % 16)+b % 64)+c % 64=r at h ho;simp only [okR,decide_eq_true_eq] at ho;unfold qQ at h
 split at h
 ·simp at h
 split at h
 ·simp at h
 split at h
 ·simp only [List.cons.injEq,and_true] at h;unfold Lib.decodeN;rw [if_neg (by omega),if_neg (by omega),if_pos (by omega),if_pos (by omega)]
 simp at h
theorem akT (n a b c d:Nat) (hn:4<=n) (ha:a<256) (hb:b<256) (hc:c<256) (hd:d<256) (ho:okR (yS [a,b,c,d])=true) (h:qQ (yS [a,b,c,d])=[a,b,c,d]):(Lib.decodeN n a b c d).2=4:=by
 have hr:yS [a,b,c,d]=64*(64*(64*(a % 8)+b % 64)+c % 64)+d % 64:=by simp [yS,Zo]
 rw [hr] at h ho;generalize hrr:64*(64*(64*(a % 8)+b % 64)+c % 64)+d % 64=r at h ho;simp only [okR,decide_eq_true_eq] at ho;unfold qQ at h
 split at h
 ·simp at h
 split at h
 ·simp at h
 split at h
 ·simp at h
 simp only [List.cons.injEq,and_true] at h;unfold Lib.decodeN;rw [if_neg (by omega),if_neg (by omega),if_neg (by omega),if_pos (by omega),if_pos (by omega)]
theorem aeu (n a b c d:Nat) (ha:a<256) (hb:b<256) (hc:c<256) (hd:d<256) (hv:¬((Lib.decodeN n a b c d).1=65533/\(Lib.decodeN n a b c d).2=1)) :
  ((Lib.decodeN n a b c d).2=1/\okR (yS [a])=true/\qQ (yS [a])=[a])\/((Lib.decodeN n a b c d).2=2/\2<=n/\okR (yS [a,b])=true/\qQ (yS [a,b])=[a,b]) \/
  ((Lib.decodeN n a b c d).2=3/\3<=n/\okR (yS [a,b,c])=true/\qQ (yS [a,b,c])=[a,b,c])\/((Lib.decodeN n a b c d).2=4/\4<=n/\okR (yS [a,b,c,d])=true/\qQ (yS [a,b,c,d])=[a,b,c,d]):=by
 have r1:yS [a]=a:=rfl;have r2:yS [a,b]=64*(a % 32)+b % 64:=by simp [yS,Zo]
 have r3:yS [a,b,c]=64*(64*(a % 16)+b % 64)+c % 64:=by simp [yS,Zo]
 have r4:yS [a,b,c,d]=64*(64*(64*(a % 8)+b % 64)+c % 64)+d % 64:=by simp [yS,Zo]
 rw [r1,r2,r3,r4];unfold Lib.decodeN at hv ⊢;simp only [okR,decide_eq_true_eq];by_cases h1:a<128
 ·rw [if_pos h1] at hv ⊢;left;refine ⟨rfl,by omega,?_⟩;unfold qQ;rw [if_pos h1]
 rw [if_neg h1] at hv ⊢;by_cases h2:a / 32=6/\(1<n/\b / 64=2)
 ·rw [if_pos h2] at hv ⊢;by_cases h3:a % 32*64+b % 64>=128
  ·rw [if_pos h3] at hv ⊢;right;left;refine ⟨rfl,by omega,by omega,?_⟩;unfold qQ;rw [if_neg (by omega),if_pos (by omega)];simp only [List.cons.injEq,and_true];omega
  rw [if_neg h3] at hv;exact absurd ⟨rfl,rfl⟩ hv
 rw [if_neg h2] at hv ⊢;by_cases h3:a / 16=14/\(1<n/\b / 64=2)/\(2<n/\c / 64=2)
 ·rw [if_pos h3] at hv ⊢;by_cases h4:a % 16*4096+b % 64*64+c % 64>=2048/\(a % 16*4096+b % 64*64+c % 64<55296\/(57344<=a % 16*4096+b % 64*64+c % 64/\a % 16*4096+b % 64*64+c % 64<=1114111))
  ·rw [if_pos h4] at hv ⊢;right;right;left;refine ⟨rfl,by omega,by omega,?_⟩;unfold qQ;rw [if_neg (by omega),if_neg (by omega),if_pos (by omega)];simp only [List.cons.injEq,and_true];omega
  rw [if_neg h4] at hv;exact absurd ⟨rfl,rfl⟩ hv
 rw [if_neg h3] at hv ⊢;by_cases h4:a / 8=30/\(1<n/\b / 64=2)/\(2<n/\c / 64=2)/\(3<n/\d / 64=2)
 ·rw [if_pos h4] at hv ⊢;by_cases h5:a % 8*262144+b % 64*4096+c % 64*64+d % 64>=65536/\(a % 8*262144+b % 64*4096+c % 64*64+d % 64<55296\/(57344<=a % 8*262144+b % 64*4096+c % 64*64+d % 64/\a % 8*262144+b % 64*4096+c % 64*64+d % 64<=1114111))
  ·rw [if_pos h5] at hv ⊢;right;right;right;refine ⟨rfl,by omega,by omega,?_⟩;unfold qQ;rw [if_neg (by omega),if_neg (by omega),if_neg (by omega)];simp only [List.cons.injEq,and_true];omega
  rw [if_neg h5] at hv;exact absurd ⟨rfl,rfl⟩ hv
 rw [if_neg h4] at hv;exact absurd ⟨rfl,rfl⟩ hv
theorem J8 (l:List UInt8) (h:1<=l.length):qq (l.take 1)=[(l.getD 0 0).toNat]:=by
 match l,h with
 | a::l,_=>simp [qq]
theorem J7 (l:List UInt8) (h:2<=l.length):qq (l.take 2)=[(l.getD 0 0).toNat,(l.getD 1 0).toNat]:=by
 match l,h with
 | a::b::l,_=>simp [qq]
theorem J6 (l:List UInt8) (h:3<=l.length):qq (l.take 3)=[(l.getD 0 0).toNat,(l.getD 1 0).toNat,(l.getD 2 0).toNat]:=by
 match l,h with
 | a::b::c::l,_=>simp [qq]
theorem J5 (l:List UInt8) (h:4<=l.length):qq (l.take 4)=[(l.getD 0 0).toNat,(l.getD 1 0).toNat,(l.getD 2 0).toNat,(l.getD 3 0).toNat]:=by
 match l,h with
 | a::b::c::d::l,_=>simp [qq]
theorem agi (l:List UInt8) (n:Nat) (h1:1<=n) (h4:n<=4) (h:X9 n l=true):l≠[]/\Lib.validD l=Lib.validD (l.drop n):=by
 simp only [X9,Bool.and_eq_true,decide_eq_true_eq] at h;obtain ⟨⟨hl,ho⟩,he⟩:=h;have hne:l≠[]:=fun h=>by rw [h] at hl;simp at hl;omega
 refine ⟨hne,?_⟩;rw [Lib.validD_step l hne,Lib.decodeL_N];have k0:=(l.getD 0 0).toNat_lt;have k1:=(l.getD 1 0).toNat_lt;have k2:=(l.getD 2 0).toNat_lt;have k3:=(l.getD 3 0).toNat_lt;have hcase:n=1\/n=2\/n=3\/n=4:=by omega
 rcases hcase with rfl | rfl | rfl | rfl
 ·rw [J8 l hl] at he ho;obtain ⟨e1,e2⟩:=akW l.length _ (l.getD 1 0).toNat (l.getD 2 0).toNat (l.getD 3 0).toNat k0 he;rw [e1,if_neg (by simp only [];omega)]
 ·rw [J7 l hl] at he ho;have e1:=akV l.length _ _ (l.getD 2 0).toNat (l.getD 3 0).toNat hl k0 k1 he;rw [if_neg (by omega),e1]
 ·rw [J6 l hl] at he ho;have e1:=akU l.length _ _ _ (l.getD 3 0).toNat hl k0 k1 k2 ho he;rw [if_neg (by omega),e1]
 rw [J5 l hl] at he ho;have e1:=akT l.length _ _ _ _ hl k0 k1 k2 k3 ho he;rw [if_neg (by omega),e1]
theorem ajQ (l:List UInt8) (hne:l≠[]) (h:∀ n,1<=n->n<=4->X9 n l=false):Lib.validD l=false:=by
 rw [Lib.validD_step l hne,Lib.decodeL_N];have k0:=(l.getD 0 0).toNat_lt;have k1:=(l.getD 1 0).toNat_lt;have k2:=(l.getD 2 0).toNat_lt;have k3:=(l.getD 3 0).toNat_lt;have hl:1<=l.length:=List.length_pos_iff.2 hne;by_cases hv:(Lib.decodeN l.length (l.getD 0 0).toNat (l.getD 1 0).toNat (l.getD 2 0).toNat (l.getD 3 0).toNat).1=65533/\(Lib.decodeN l.length (l.getD 0 0).toNat (l.getD 1 0).toNat (l.getD 2 0).toNat (l.getD 3 0).toNat).2=1
 ·rw [if_pos hv]
 exfalso;rcases aeu _ _ _ _ _ k0 k1 k2 k3 hv with ⟨_,h2,h3⟩ | ⟨_,hn,h2,h3⟩ | ⟨_,hn,h2,h3⟩ | ⟨_,hn,h2,h3⟩
 ·have:=h 1 (by omega) (by omega);simp only [X9,J8 l hl,h2,h3] at this;simp at this
  first | omega | exact hne this
 ·have:=h 2 (by omega) (by omega);simp only [X9,J7 l hn,h2,h3] at this;simp at this;omega
 ·have:=h 3 (by omega) (by omega);simp only [X9,J6 l hn,h2,h3] at this;simp at this;omega
 have:=h 4 (by omega) (by omega);simp only [X9,J5 l hn,h2,h3] at this;simp at this;omega
end Go.Proofs.YtjpjalmilfgckaaGreatDoor
namespace Go.Proofs.YtjpjalmilfgckaaGreatDoor
open Go.RowKit
section
variable {P:Program}
theorem Yu {ops:Array Oper} {rest:List Oper} {o:Oper} {a:Act} {Q:Exit->Act->World->Prop} {w:World} (hgd:o.guard=none) (sl x:Operand) (t u:TypeId)
  (ho:o.op=.call { callee:=.builtin .append,args:=#[sl,x],argTypes:=#[t,u] })
  (base:Nat) (e:TypeId) (i:TypeInfo) (ht:P.underlying t=some (.slice e)) (hu:P.underlying u=some .string) (hi:P.info? e=some i) (hz:i.zero=some (.int .u8 0))
  (hsize:i.size=1) (hby:i.bytes=1)
  (A:Option Addr) (n c:Nat) (xs:List UInt8) (hs:a.eval sl=.slice A n c) (hown:w.ownsRow base e 1 (.slice A n c) n (u8s xs)) (s:ByteArray) (hx:a.eval x=.string s)
  (h63:n+s.data.toList.length<=70368744177664) (hbase:base<=w.heap.size)
  (h:∀ A' c' w',w'.ownsRow base e 1 (.slice A' (n+s.data.toList.length) c') (n+s.data.toList.length) (u8s (xs++s.data.toList))->Below base w w'->w.grownBy w' (Value.slice A n c).ownBlock->n+s.data.toList.length<=c'->c'<=maxLen->wpList P ops Q rest (a.put o.dst (.slice A' (n+s.data.toList.length) c')) w'):wpList P ops Q (o::rest) a w:=by
 have hlen:s.data.toList.length=s.size:=by rw [Array.length_toList];rfl
 refine Lib.wpList_append_own_string w hgd sl x t u ho base e i ht hu hi hz hsize hby _ n _ hs hown s hx (by simp only [maxLen];omega) (by omega) hbase ?_;intro v' w' h1 h2 h3;obtain ⟨A',c',rfl,h4,h5⟩:=zY h1;rw [<-hlen] at h1 h4 ⊢;refine h A' c' w' ?_ ((Below.refl _ _).grown h2 hbase (fun k hk=>(hown.lt k hk).1)) h2 h4 h5;rw [zt];exact h1
theorem YG {o:Oper} {a:Act} {K:Act->World->Prop} {Q:Exit->Act->World->Prop} {w:World} (sl x:Operand) (t u:TypeId)
  (ho:o.op=.call { callee:=.builtin .append,args:=#[sl,x],argTypes:=#[t,u] })
  (base:Nat) (e:TypeId) (i:TypeInfo) (ht:P.underlying t=some (.slice e)) (hu:P.underlying u=some .string) (hi:P.info? e=some i) (hz:i.zero=some (.int .u8 0))
  (hsize:i.size=1) (hby:i.bytes=1)
  (A:Option Addr) (n c:Nat) (xs:List UInt8) (hs:a.eval sl=.slice A n c) (hown:w.ownsRow base e 1 (.slice A n c) n (u8s xs)) (s:ByteArray) (hx:a.eval x=.string s)
  (h63:n+s.data.toList.length<=70368744177664) (hbase:base<=w.heap.size)
  (h:∀ A' c' w',w'.ownsRow base e 1 (.slice A' (n+s.data.toList.length) c') (n+s.data.toList.length) (u8s (xs++s.data.toList))->Below base w w'->w.grownBy w' (Value.slice A n c).ownBlock->n+s.data.toList.length<=c'->c'<=maxLen->K (a.put o.dst (.slice A' (n+s.data.toList.length) c')) w'):o.wp P a w K Q:=by
 have hlen:s.data.toList.length=s.size:=by rw [Array.length_toList];rfl
 obtain ⟨v',w',hrun,h2,h3,h4⟩:=Lib.run_append_own_string (P:=P) w base t u o.type e i ht hu hi hz hsize hby _ n _ hown s (by simp only [maxLen];omega) (by omega) hbase;obtain ⟨A',c',rfl,h4,h5⟩:=zY h2;unfold Oper.wp execOp;simp only [ho,resolve,invoke,builtin,Sem.run_bind,Sem.run_pure,Result.andThen_ok,List.map_toArray,List.map_cons,List.map_nil,hs,hx,hrun];rw [<-hlen] at h2 h4 ⊢;refine h A' c' w' ?_ ((Below.refl _ _).grown h3 hbase (fun k hk=>(hown.lt k hk).1)) h3 h4 h5;rw [zt];exact h2
end
end Go.Proofs.YtjpjalmilfgckaaGreatDoor
namespace Go.Proofs.YtjpjalmilfgckaaGreatDoor
open Go.RowKit
theorem z7:(Tryz.prog.info? 5).map (fun i=>(i.zero,i.size,i.bytes))=some (some (.int .u8 0),1,1):=by kernel_rfl
theorem Jc (A B:Option Addr) (n c m d:Nat) (l1 l2:List UInt8) (w:World) (h1:Reads w w.heap.size 1 A n (u8s l1)) (h2:Reads w w.heap.size 1 B m (u8s l2)) :
  Calls Tryz.prog 22 #[.slice A n c,.slice B m d] w fun e w'=>e=.returned (.bool (l1==l2))/\w=w':=by
 have e1:=zK (P:=Tryz.prog) w 35 9 5 Tryz.underlying35 Tryz.underlying5 Tryz.underlying9 _ A n c l1 h1;have e2:=zK (P:=Tryz.prog) w 35 9 5 Tryz.underlying35 Tryz.underlying5 Tryz.underlying9 _ B m d l2 h2;go_enter Tryz.func22,Tryz.ntmps22;go_wp2;go_ret;exact ⟨rfl,rfl⟩
theorem aj2 (A B:Option Addr) (n c m d:Nat) (l1 l2:List UInt8) (w:World) (h1:Reads w w.heap.size 1 A n (u8s l1)) (h2:Reads w w.heap.size 1 B m (u8s l2)) (h:l1=l2) :
  Calls Tryz.prog 22 #[.slice A n c,.slice B m d] w fun e w'=>e=.returned (.bool true)/\w=w':=by
 subst h;simpa using Jc A B n c m d l1 l1 w h1 h2
theorem qf (A:Option Addr) (n c:Nat) (l:List UInt8) (w:World) (hr:Reads w w.heap.size 1 A n (u8s l)) (hn:n<=35184372088832) :
  Calls Tryz.prog 15 #[.slice A n c] w fun e w'=>∃ A' c',e=.returned (.slice A' n c')/\n<=c'/\c'<=maxLen /\
   w'.ownsRow w.heap.size 5 1 (.slice A' n c') n (u8s l)/\Below w.heap.size w w':=by
 obtain ⟨i0,hi0,hz0,hz1,hz2⟩:=info_parts z7;go_enter Tryz.func15,Tryz.ntmps15
 go_wp2_with (at_builtin
              refine zb _ rfl (.tmp 4) (.tmp 5) 35 rfl w.heap.size 5 i0 (.int .u8 0) 1 1 Tryz.underlying35 hi0 hz0 hz1 hz2 rfl (by decide) none 0 0 [] rfl (World.ownsRow_nil _ _ _ _) A n c (u8s l) rfl hr (z6 l) (by simp only [maxLen];omega) (by omega) (Nat.le_refl _) ?_;intro A2 c2 w2 hown2 hb2 hg2 hc2 hm2;simp only [Nat.zero_add,List.nil_append] at hown2 hc2)
 go_ret;exact ⟨A2,c2,by simp,hc2,hm2,hown2,hb2⟩
end Go.Proofs.YtjpjalmilfgckaaGreatDoor
set_option linter.unusedSectionVars false
namespace Go.Proofs.YtjpjalmilfgckaaGreatDoor
section
variable {α:Type} [DecidableEq α]
def zH:List α->α->Option Nat
 | [],_=>none
 | x::r,s=>if x=s then some 0 else (zH r s).map (· + 1)
theorem yU:∀ (d:List α) (s:α),zH d s=none ↔ s ∉ d
 | [],s=>by simp [zH]
 | x::r,s=>by
  unfold zH
  split
  ·rename_i h;subst h;simp
  rename_i h
  rw [Option.map_eq_none_iff,yU r s,List.mem_cons,not_or];exact ⟨fun h2=>⟨fun e=>h e.symm,h2⟩,fun h2=>h2.2⟩
theorem YE:∀ (d:List α) (s:α) (k:Nat),zH d s=some k->d[k]? = some s
 | x::r,s,k,h=>by
  unfold zH at h
  split at h
  ·rename_i e
   obtain rfl:=Option.some.inj h;simp [e]
  obtain ⟨j,hj,rfl⟩:=Option.map_eq_some_iff.1 h;simpa using YE r s j hj
theorem ZM:∀ (d:List α) (s:α) (k:Nat),d.Nodup->d[k]? = some s->zH d s=some k
 | x::r,s,0,hn,h=>by
  obtain rfl:x=s:=by simpa using h
  simp [zH]
 | x::r,s,k+1,hn,h=>by
  have h':r[k]? = some s:=by simpa using h
  have hm:s∈r:=List.mem_of_getElem? h';have hx:x≠s:=fun e=>(List.nodup_cons.1 hn).1 (e ▸ hm);simp [zH,hx,ZM r s k (List.nodup_cons.1 hn).2 h']
def zz (st:List α×List Nat) (s:α):List α×List Nat:=
 match zH st.1 s with
 | some k=>(st.1,st.2++[k])
 | none=>(st.1++[s],st.2++[st.1.length])
def zj (l:List α):List α×List Nat:=l.foldl zz ([],[])
def Yw:Nat->List Nat->Option Nat
 | u,[]=>some u
 | u,n::r=>if u<n then none else Yw (if n=u then u+1 else u) r
theorem ab7 (l:List α) (s:α):zj (l++[s])=zz (zj l) s:=by simp [zj,List.foldl_append]
theorem YM (d:List α) (hd:d.Nodup):∀ (ns:List Nat) (u v:Nat) (acc:List Nat) (l:List α),u<=d.length->ns.map (d[·]?)=l.map some->Yw u ns=some v ->
  v<=d.length/\l.foldl zz (d.take u,acc)=(d.take v,acc++ns)
 | [],u,v,acc,l,hu,hl,h=>by
  obtain rfl:l=[]:=by simpa using hl.symm
  obtain rfl:u=v:=by simpa [Yw] using h
  exact ⟨hu,by simp⟩
 | n::r,u,v,acc,[],hu,hl,h=>by simp at hl
 | n::r,u,v,acc,s::l,hu,hl,h=>by
  simp only [List.map_cons,List.cons.injEq] at hl;obtain ⟨h1,h2⟩:=hl;unfold Yw at h
  split at h
  ·cases h
  rename_i hnu
  have hlt:n<d.length:=(List.getElem?_eq_some_iff.1 h1).1;rw [List.foldl_cons];by_cases e:n=u
  ·subst e;rw [if_pos rfl] at h;have hno:zH (d.take n) s=none:=by
    rw [yU];intro hm;obtain ⟨j,hj⟩:=List.getElem?_of_mem hm;rw [List.getElem?_take] at hj
    split at hj
    ·rename_i hjn
     have a:=ZM d s j hd hj;have b:=ZM d s n hd h1;rw [a] at b;have:=Option.some.inj b;omega
    cases hj
   have hs:zz (d.take n,acc) s=(d.take (n+1),acc++[n]):=by
    unfold zz;simp only [hno];rw [List.length_take,Nat.min_eq_left hu,List.take_add_one,h1];rfl
   rw [hs];obtain ⟨hv,hr⟩:=YM d hd r (n+1) v (acc++[n]) l hlt h2 h;exact ⟨hv,by rw [hr];simp⟩
  rw [if_neg e] at h;have hyes:zH (d.take u) s=some n:=ZM _ s n (hd.sublist (List.take_sublist _ _)) (by rw [List.getElem?_take,if_pos (by omega),h1]);have hs:zz (d.take u,acc) s=(d.take u,acc++[n]):=by
   unfold zz;simp only [hyes]
  rw [hs];obtain ⟨hv,hr⟩:=YM d hd r u v (acc++[n]) l hu h2 h;exact ⟨hv,by rw [hr];simp⟩
theorem YJ:∀ (l:List α) (d0:List α) (acc:List Nat),d0.Nodup ->
  ∃ (d:List α) (ns:List Nat),l.foldl zz (d0,acc)=(d,acc++ns)/\d0 <+: d/\d.Nodup/\Yw d0.length ns=some d.length/\ns.map (d[·]?)=l.map some
 | [],d0,acc,h=>⟨d0,[],by simp,List.prefix_refl _,h,rfl,rfl⟩
 | s::l,d0,acc,h=>by
  rw [List.foldl_cons];rcases hp:zH d0 s with _ | k
  ·have hs:zz (d0,acc) s=(d0++[s],acc++[d0.length]):=(by unfold zz;simp only [hp]);have hno:=(yU d0 s).1 hp;have hnd:(d0++[s]).Nodup:=by
    rw [List.nodup_append];exact ⟨h,by simp,fun a ha b hb=>by rw [List.mem_singleton] at hb;subst hb;exact fun e=>hno (e ▸ ha)⟩
   obtain ⟨d,ns,e1,e2,e3,e4,e5⟩:=YJ l (d0++[s]) (acc++[d0.length]) hnd;refine ⟨d,d0.length::ns,by rw [hs,e1];simp,(List.prefix_append _ _).trans e2,e3,?_,?_⟩
   ·unfold Yw;rw [if_neg (by omega),if_pos rfl];simpa using e4
   rw [List.map_cons,List.map_cons,e5]
   congr 1
   obtain ⟨t,rfl⟩:=e2;simp
  have hs:zz (d0,acc) s=(d0,acc++[k]):=by unfold zz;simp only [hp]
  have hk:=YE d0 s k hp;have hlt:k<d0.length:=(List.getElem?_eq_some_iff.1 hk).1;obtain ⟨d,ns,e1,e2,e3,e4,e5⟩:=YJ l d0 (acc++[k]) h;refine ⟨d,k::ns,by rw [hs,e1];simp,e2,e3,?_,?_⟩
  ·unfold Yw;rw [if_neg (by omega),if_neg (by omega)];exact e4
  rw [List.map_cons,List.map_cons,e5]
  congr 1
  obtain ⟨t,rfl⟩:=e2;rw [List.getElem?_append_left hlt,hk]
theorem XO (l:List α):(zj l).1.Nodup/\Yw 0 (zj l).2=some (zj l).1.length/\(zj l).2.map ((zj l).1[·]?)=l.map some:=by
 obtain ⟨d,ns,e1,e2,e3,e4,e5⟩:=YJ l [] [] List.nodup_nil;unfold zj;rw [e1];exact ⟨e3,e4,e5⟩
theorem X4 (d:List α):∀ (ns:List Nat),(∀ n∈ns,n<d.length)->ns.map (d[·]?)=(ns.filterMap (d[·]?)).map some
 | [],_=>rfl
 | n::r,h=>by
  have hn:=List.getElem?_eq_getElem (h n (by simp));rw [List.map_cons,List.filterMap_cons,hn];simp only [List.map_cons];rw [X4 d r (fun m hm=>h m (by simp [hm]))]
end
end Go.Proofs.YtjpjalmilfgckaaGreatDoor
namespace Go.Proofs.YtjpjalmilfgckaaGreatDoor
def ZA:Nat->Nat->List UInt8
 | 0,n=>[UInt8.ofNat n]
 | f+1,n=>if n<128 then [UInt8.ofNat n] else UInt8.ofNat (n % 128+128)::ZA f (n / 128)
def leb (n:Nat):List UInt8:=ZA 9 n
theorem Yl (f n:Nat) (h:n<128):ZA f n=[UInt8.ofNat n]:=by
 cases f<;>simp [ZA,h]
theorem aag (f n:Nat) (h:128<=n):ZA (f+1) n=UInt8.ofNat (n % 128+128)::ZA f (n / 128):=by
 simp [ZA,Nat.not_lt.2 h]
theorem ae9:∀ f n:Nat,(ZA f n).length<=f+1
 | 0,n=>by simp [ZA]
 | f+1,n=>by
  have:=ae9 f (n / 128);unfold ZA
  split<;>simp<;>omega
theorem zE (n:Nat):(leb n).length<=10:=ae9 9 n
def V0:List UInt8->Nat->Nat->Nat×Nat×Nat
 | [],_,_=>(0,0,3)
 | c::r,i,acc=>
  if i=9/\1<c.toNat then (0,0,6)
  else if 0<i/\c.toNat=0 then (0,0,10)
  else if c.toNat<128 then (acc+c.toNat*128 ^ i,i+1,0)
  else V0 r (i+1) (acc+c.toNat % 128*128 ^ i)
def get (l:List UInt8):Nat×Nat×Nat:=V0 l 0 0
def zig (n:Int):Nat:=if n<0 then (2*(-(n+1))+1).toNat else (2*n).toNat
def zag (u:Nat):Int:=if u % 2=1 then -((u / 2:Nat):Int)-1 else ((u / 2:Nat):Int)
theorem Zz (n:Nat) (h:n<256):(UInt8.ofNat n).toNat=n:=by
 simp [Nat.mod_eq_of_lt h]
theorem agm:∀ (f m i acc:Nat) (r:List UInt8),i+f=9->m<128 ^ (f+1)->(0<i->0<m)->m*128 ^ i<18446744073709551616 ->
  V0 (ZA f m++r) i acc=(acc+m*128 ^ i,i+(ZA f m).length,0):=by
 intro f
 induction f with
 | zero=>
  intro m i acc r hi hm hp hb;have hi9:i=9:=by omega
  subst hi9;have hm2:m<2:=by
   have h128:(128:Nat) ^ 9=9223372036854775808:=(by decide);rw [h128] at hb;omega
  have hm1:m=1:=by have:=hp (by omega);omega
  subst hm1;simp [ZA,V0]
 | succ f ih=>
  intro m i acc r hi hm hp hb;by_cases hs:m<128
  ·rw [Yl _ _ hs];have ht:=Zz m (by omega);simp only [List.cons_append,List.nil_append,V0,ht,List.length_cons,List.length_nil];rw [if_neg (by omega),if_neg (by intro ⟨h1,h2⟩;have:=hp h1;omega),if_pos hs]
  have hs':128<=m:=by omega
  rw [aag _ _ hs'];have ht:=Zz (m % 128+128) (by omega);simp only [List.cons_append,V0,ht,List.length_cons];have hpow:128 ^ (i+1)=128*128 ^ i:=by rw [Nat.pow_succ,Nat.mul_comm]
  have hdm:m / 128*128 ^ (i+1)<=m*128 ^ i:=by
   rw [hpow,<-Nat.mul_assoc];exact Nat.mul_le_mul_right _ (Nat.div_mul_le_self m 128)
  rw [if_neg (by omega),if_neg (by omega),if_neg (by omega)]
  rw [ih (m / 128) (i+1) _ r (by omega) (by
   rw [Nat.pow_succ] at hm;exact Nat.div_lt_of_lt_mul (by rw [Nat.mul_comm];exact hm)) (by omega) (Nat.lt_of_le_of_lt hdm hb)]
  have h1:(m % 128+128) % 128=m % 128:=by omega
  have h2:m*128 ^ i=m % 128*128 ^ i+m / 128*128 ^ (i+1):=by
   rw [hpow,<-Nat.mul_assoc,<-Nat.add_mul]
   congr 1
   omega
  rw [h1,h2];simp only [Prod.mk.injEq,and_true];constructor
  ·omega
  omega
theorem Zj (n:Nat) (hn:n<18446744073709551616) (r:List UInt8):get (leb n++r)=(n,(leb n).length,0):=by
 have h:=agm 9 n 0 0 r rfl (by
  have h128:(128:Nat) ^ (9+1)=1180591620717411303424:=by decide
  rw [h128];omega) (by omega) (by simpa using hn)
 simpa [get,leb] using h
theorem agl:∀ (l:List UInt8) (i acc:Nat),i<=9 ->
  (∃ m,V0 l i acc=(acc+m*128 ^ i,i+(ZA (9-i) m).length,0)/\(ZA (9-i) m).length<=l.length/\ZA (9-i) m=l.take (ZA (9-i) m).length/\(0<i->0<m)/\m*128 ^ i<18446744073709551616/\m<128 ^ (10-i)) \/
  ∃ e,V0 l i acc=(0,0,e)/\e≠0/\e<11:=by
 intro l
 induction l with
 | nil=>intro i acc _;exact .inr ⟨3,rfl,by omega,by omega⟩
 | cons c r ih=>
  intro i acc hi;unfold V0;have hc:c.toNat<256:=c.toNat_lt;by_cases h1:i=9/\1<c.toNat
  ·rw [if_pos h1];exact .inr ⟨6,rfl,by omega,by omega⟩
  rw [if_neg h1];by_cases h2:0<i/\c.toNat=0
  ·rw [if_pos h2];exact .inr ⟨10,rfl,by omega,by omega⟩
  rw [if_neg h2];have hci:UInt8.ofNat c.toNat=c:=by simp
  by_cases h3:c.toNat<128
  ·rw [if_pos h3];refine .inl ⟨c.toNat,?_⟩;rw [Yl _ _ h3];have hpow:c.toNat*128 ^ i<18446744073709551616:=by
    rcases Nat.lt_or_ge i 9 with hlt | hge
    ·have h8:128 ^ i<=128 ^ 8:=Nat.pow_le_pow_right (by omega) (by omega);have h128:(128:Nat) ^ 8=72057594037927936:=(by decide);have:=Nat.mul_le_mul (Nat.le_of_lt_succ h3:c.toNat<=127) h8;rw [h128] at this;omega
    have hi9:i=9:=(by omega);subst hi9;have h128:(128:Nat) ^ 9=9223372036854775808:=(by decide);rw [h128];omega
   refine ⟨rfl,by simp,by simp [hci],by omega,hpow,?_⟩
   calc c.toNat<128 ^ 1:=by simpa using h3
    _<=128 ^ (10-i):=Nat.pow_le_pow_right (by omega) (by omega)
  rw [if_neg h3];have hi8:i<=8:=by omega
  rcases ih (i+1) (acc+c.toNat % 128*128 ^ i) (by omega) with ⟨m,hg,hl,htk,hpos,hlt,hlt2⟩ | h
  ·refine .inl ⟨c.toNat % 128+128*m,?_⟩;have hm:=hpos (by omega);have e1:9-i=(9-(i+1))+1:=(by omega);have hm0:(c.toNat % 128+128*m) % 128=c.toNat % 128:=(by omega);have hm1:(c.toNat % 128+128*m) / 128=m:=(by omega);have hbig:=aag (9-(i+1)) (c.toNat % 128+128*m) (by omega);rw [hm0,hm1] at hbig;have hc2:UInt8.ofNat (c.toNat % 128+128)=c:=by
    have:c.toNat % 128+128=c.toNat:=(by omega);rw [this,hci]
   rw [hc2] at hbig;rw [e1,hbig,hg];have hpow:128 ^ (i+1)=128*128 ^ i:=(by rw [Nat.pow_succ,Nat.mul_comm]);have e2:(c.toNat % 128+128*m)*128 ^ i=c.toNat % 128*128 ^ i+m*128 ^ (i+1):=by
    rw [hpow,Nat.add_mul,<-Nat.mul_assoc,Nat.mul_comm m 128]
   have e10:10-i=(10-(i+1))+1:=(by omega);refine ⟨?_,by simpa using hl,by rw [List.length_cons,List.take_succ_cons,<-htk],fun _=>by omega,?_,?_⟩
   ·rw [e2];simp only [Prod.mk.injEq,List.length_cons,and_true];constructor<;>omega
   ·                                                                
    have hdig:c.toNat % 128*128 ^ i<128 ^ (i+1):=by
     rw [hpow];exact Nat.mul_lt_mul_of_lt_of_le (by omega) (Nat.le_refl _) (Nat.pow_pos (by omega))
    rw [e2];have hdvd:18446744073709551616=(18446744073709551616 / 128 ^ (i+1))*128 ^ (i+1):=by
     have:i=0\/i=1\/i=2\/i=3\/i=4\/i=5\/i=6\/i=7\/i=8:=(by omega);rcases this with rfl | rfl | rfl | rfl | rfl | rfl | rfl | rfl | rfl<;>decide
    generalize 18446744073709551616 / 128 ^ (i+1)=q at hdvd;rw [hdvd] at hlt ⊢;have hmq:m<q:=Nat.lt_of_mul_lt_mul_right hlt;have:(m+1)*128 ^ (i+1)<=q*128 ^ (i+1):=Nat.mul_le_mul_right _ hmq;rw [Nat.add_mul,Nat.one_mul] at this;omega
   rw [e10,Nat.pow_succ];have:10-(i+1)=9-i:=(by omega);omega
  exact .inr h
theorem qt (l:List UInt8):(∃ n,get l=(n,(leb n).length,0)/\n<18446744073709551616/\(leb n).length<=l.length/\leb n=l.take (leb n).length)\/∃ e,get l=(0,0,e)/\e≠0/\e<11:=by
 rcases agl l 0 0 (by omega) with ⟨m,h1,h2,h3,_,h5,_⟩ | h
 ·refine .inl ⟨m,?_⟩;simp only [Nat.pow_zero,Nat.mul_one,Nat.zero_add,Nat.sub_zero] at h1 h2 h3 h5;exact ⟨h1,h5,h2,h3⟩
 exact .inr h
theorem Jw (n:Int) (h1 : -9223372036854775808<=n) (h2:n<=9223372036854775807):zig n<18446744073709551616:=by
 unfold zig;split<;>omega
theorem aeT (n:Int):zag (zig n)=n:=by
 unfold zag zig;split<;>split<;>omega
theorem abu (u:Nat):zig (zag u)=u:=by
 unfold zag zig;split<;>split<;>omega
theorem adv (u:Nat) (h:u<18446744073709551616) : -9223372036854775808<=zag u/\zag u<=9223372036854775807:=by
 unfold zag;split<;>omega
end Go.Proofs.YtjpjalmilfgckaaGreatDoor
namespace Go.Proofs.YtjpjalmilfgckaaGreatDoor
instance textEq:DecidableEq ByteArray:=fun a b=>decidable_of_iff (a.data=b.data) ⟨fun h=>by cases a;cases b;simp_all,fun h=>by rw [h]⟩
def bts (s:ByteArray):List UInt8:=s.data.toList
def txt (l:List UInt8):ByteArray:=⟨l.toArray⟩
@[simp] theorem Ju (l:List UInt8):bts (txt l)=l:=rfl
@[simp] theorem aiN (s:ByteArray):txt (bts s)=s:=rfl
def yp (s:ByteArray):List UInt8:=leb (bts s).length++bts s
def qK (l:List ByteArray):List UInt8:=leb (zj l).1.length++(zj l).1.flatMap yp++(zj l).2.flatMap leb
def zQ (most:Int):Nat->List UInt8->List ByteArray->Except Nat (List ByteArray×List UInt8)
 | 0,b,d=>.ok (d,b)
 | k+1,b,d=>
  if (get b).2.2≠0 then .error (get b).2.2
  else if most<0\/most<((get b).1:Int) then .error 5
  else if (b.drop (get b).2.1).length<(get b).1 then .error 3
  else if (zH d (txt ((b.drop (get b).2.1).take (get b).1))).isSome then .error 150
  else zQ most k ((b.drop (get b).2.1).drop (get b).1) (d++[txt ((b.drop (get b).2.1).take (get b).1)])
def zT (m:Nat):Nat->List UInt8->Nat->List Nat->Except Nat (Nat×List Nat×List UInt8)
 | 0,b,u,out=>.ok (u,out,b)
 | k+1,b,u,out=>
  if (get b).2.2≠0 then .error (get b).2.2
  else if m<=(get b).1\/u<(get b).1 then .error 150
  else zT m k (b.drop (get b).2.1) (if (get b).1=u then u+1 else u) (out++[(get b).1])
theorem VF (most:Int):∀ (t:List ByteArray) (d:List ByteArray) (r:List UInt8),(d++t).Nodup->(∀ s∈t,((bts s).length:Int)<=most)->(∀ s∈t,(bts s).length<18446744073709551616) ->
  zQ most t.length (t.flatMap yp++r) d=.ok (d++t,r)
 | [],d,r,_,_,_=>by simp [zQ]
 | s::t,d,r,hn,hm,hs=>by
  have hg:get (yp s++(t.flatMap yp++r))=((bts s).length,(leb (bts s).length).length,0):=by
   unfold yp;rw [List.append_assoc];exact Zj _ (hs s (by simp)) _
  have hdrop:(yp s++(t.flatMap yp++r)).drop (leb (bts s).length).length=bts s++(t.flatMap yp++r):=by
   unfold yp;rw [List.append_assoc,List.drop_left]
  rw [List.length_cons,List.flatMap_cons,List.append_assoc,zQ,hg];simp only [hdrop];have h1:=hm s (by simp);have hnot:s ∉ d:=by
   intro h;exact (List.nodup_append.1 hn).2.2 s h s (by simp) rfl
  rw [if_neg (by simp),if_neg (by omega),if_neg (by simp),List.take_left,List.drop_left,aiN,(yU d s).2 hnot,if_neg (by simp)];rw [VF most t (d++[s]) r (by simpa using hn) (fun x hx=>hm x (by simp [hx])) (fun x hx=>hs x (by simp [hx]))];simp
theorem V7 (m:Nat):∀ (ns:List Nat) (u v:Nat) (out:List Nat) (r:List UInt8),(∀ n∈ns,n<m)->m<18446744073709551616->Yw u ns=some v ->
  zT m ns.length (ns.flatMap leb++r) u out=.ok (v,out++ns,r)
 | [],u,v,out,r,_,_,h=>by
  obtain rfl:u=v:=by simpa [Yw] using h
  simp [zT]
 | n::ns,u,v,out,r,hm,hb,h=>by
  have hn:=hm n (by simp);rw [Yw] at h
  split at h
  ·cases h
  rename_i hnu
  rw [List.length_cons,List.flatMap_cons,List.append_assoc,zT,Zj n (by omega)];simp only [List.drop_left];rw [if_neg (by simp),if_neg (by omega),V7 m ns _ v _ r (fun x hx=>hm x (by simp [hx])) hb h];simp
theorem aan (b:List UInt8) (h:(get b).2.2=0):b=leb (get b).1++b.drop (get b).2.1:=by
 rcases qt b with ⟨n,e,-,-,h4⟩ | ⟨e,h1,h2,-⟩
 ·rw [e];simp only;exact (List.take_append_drop (leb n).length b).symm.trans (by rw [<-h4])
 rw [h1] at h;exact absurd h h2
theorem XK (most:Int):∀ (k:Nat) (b:List UInt8) (d d':List ByteArray) (r:List UInt8),zQ most k b d=.ok (d',r) ->
  ∃ t,d'=d++t/\t.length=k/\b=t.flatMap yp++r/\(d.Nodup->d'.Nodup)
 | 0,b,d,d',r,h=>by
  simp only [zQ,Except.ok.injEq,Prod.mk.injEq] at h;exact ⟨[],by simp [h.1],rfl,by simp [h.2],fun hn=>h.1 ▸ hn⟩
 | k+1,b,d,d',r,h=>by
  rw [zQ] at h
  split at h
  ·cases h
  rename_i h0
  split at h
  ·cases h
  split at h
  ·cases h
  rename_i hlen
  split at h
  ·cases h
  rename_i hp
  have hb:=aan b (by simpa using h0);obtain ⟨t,e1,e2,e3,e4⟩:=XK most k _ _ d' r h;generalize b.drop (get b).2.1=c at hb hlen hp e1 e3 e4;generalize (get b).1=n at hb hlen hp e1 e3 e4;have hn:(bts (txt (c.take n))).length=n:=by rw [Ju,List.length_take];omega
  refine ⟨txt (c.take n)::t,by rw [e1];simp,by simp [e2],?_,fun hnd=>e4 ?_⟩
  ·rw [List.flatMap_cons,yp,hn,Ju,List.append_assoc,List.append_assoc,<-e3,List.take_append_drop];exact hb
  have hno:=(yU d _).1 (by simpa using hp);rw [List.nodup_append];exact ⟨hnd,by simp,fun a ha x hx=>by rw [List.mem_singleton] at hx;subst hx;exact fun e=>hno (e ▸ ha)⟩
theorem VG (m:Nat):∀ (k:Nat) (b:List UInt8) (u v:Nat) (out out':List Nat) (r:List UInt8),zT m k b u out=.ok (v,out',r) ->
  ∃ ns,out'=out++ns/\ns.length=k/\b=ns.flatMap leb++r/\Yw u ns=some v/\∀ n∈ns,n<m
 | 0,b,u,v,out,out',r,h=>by
  simp only [zT,Except.ok.injEq,Prod.mk.injEq] at h;exact ⟨[],by simp [h.2.1],rfl,by simp [h.2.2],by rw [Yw,h.1],by simp⟩
 | k+1,b,u,v,out,out',r,h=>by
  rw [zT] at h
  split at h
  ·cases h
  rename_i h0
  split at h
  ·cases h
  rename_i hc
  have hb:=aan b (by simpa using h0);obtain ⟨ns,e1,e2,e3,e4,e5⟩:=VG m k _ _ v _ out' r h;generalize b.drop (get b).2.1=c at hb e3;generalize (get b).1=n at hb hc e1 e4;refine ⟨n::ns,by rw [e1];simp,by simp [e2],by rw [List.flatMap_cons,List.append_assoc,<-e3];exact hb,?_,?_⟩
  ·rw [Yw,if_neg (by omega)];exact e4
  intro x hx;rcases List.mem_cons.1 hx with rfl | hx
  ·omega
  exact e5 x hx
end Go.Proofs.YtjpjalmilfgckaaGreatDoor
namespace Go.Proofs.YtjpjalmilfgckaaGreatDoor
open Go.RowKit
def UJ (r:Nat):List UInt8:=if okR r=true then (qQ r).map UInt8.ofNat else []
def ake (r:Nat) (w:World) (e:Ending) (w':World):Prop:=e=.returned (.tuple #[.string (txt (UJ r)),.bool (okR r)])/\Below w.heap.size w w'
theorem Xm (w:World) (cs:Array Value) (xs:List UInt8) (b n:Nat) (hb:b=w.heap.size) (h:cs.toList=u8s xs) (hn:n=cs.size) :
  (convert 35 9 (.slice (some ⟨b,0,none⟩) n n)).run Tryz.prog (w.alloc (.cells cs 5))=.ok (.string (txt xs)) (w.alloc (.cells cs 5)):=
 zK _ 35 9 5 Tryz.underlying35 Tryz.underlying5 Tryz.underlying9 _ _ n n xs (qB w cs 5 _ b n hb h hn)
theorem YK (m:Nat) (h:m<256):Value.int .u8 (m:Int)=.int .u8 (((UInt8.ofNat m).toNat:Nat):Int):=by
 rw [Zz m h]
theorem agO (r:Nat) (w:World) (hr:r<=2147483647) :
  Calls Tryz.prog 286 #[.int .i32 (r:Int)] w (ake r w):=by
 unfold ake;have d0:decide ((r:Int)<0)=false:=by simp
 have h0:¬(r:Int)<0:=by omega
 by_cases h1:1114111<r
 ·have d1:decide (1114111<(r:Int))=true:=by simp;omega
  have ho:okR r=false:=by unfold okR;rw [decide_eq_false];omega
  have hp:UJ r=[]:=by unfold UJ;rw [ho];rfl
  rw [ho,hp];clear ho hp;go_enter Tryz.func286,Tryz.ntmps286;go_wp2;go_ret2;exact ⟨rfl,Below.refl _ _⟩
 have d1:decide (1114111<(r:Int))=false:=by simp;omega
 by_cases h2:55296<=r/\r<=57343
 ·have d2:decide (55296<=(r:Int))=true:=by simp;omega
  have d3:decide ((r:Int)<=57343)=true:=by simp;omega
  have ho:okR r=false:=by unfold okR;rw [decide_eq_false];omega
  have hp:UJ r=[]:=by unfold UJ;rw [ho];rfl
  rw [ho,hp];have h3:=h2.1;have h4:=h2.2;clear ho hp h2;go_enter Tryz.func286,Tryz.ntmps286;go_wp2;go_ret2;exact ⟨rfl,Below.refl _ _⟩
 have ho:okR r=true:=by unfold okR;rw [decide_eq_true];omega
 have hp:UJ r=(qQ r).map UInt8.ofNat:=by unfold UJ;rw [ho];rfl
 rw [ho,hp];clear ho hp;by_cases q0:65536<=r
 ·have hE:(qQ r).map UInt8.ofNat=[UInt8.ofNat (240+r / 262144),UInt8.ofNat (128+r / 4096 % 64),UInt8.ofNat (128+r / 64 % 64),UInt8.ofNat (128+r % 64)]:=by unfold qQ;rw [if_neg (by omega),if_neg (by omega),if_neg (by omega)];rfl
  rw [hE];clear hE;have e0:decide (65536<=(r:Int))=true:=by simp;omega
  have hC:=Xm (w.alloc (.cells #[.int .u8 ((r:Int) % 256)] 5)) #[.int .u8 (240+(r:Int) / 262144),.int .u8 (128+(r:Int) / 4096 % 64),.int .u8 (128+(r:Int) / 64 % 64),.int .u8 (128+(r:Int) % 64)] [UInt8.ofNat (240+r / 262144),UInt8.ofNat (128+r / 4096 % 64),UInt8.ofNat (128+r / 64 % 64),UInt8.ofNat (128+r % 64)] (w.heap.size+1) 4 (by simp) (by simp only [u8s,List.map_cons,List.map_nil];rw [<-YK _ (by omega),<-YK _ (by omega),<-YK _ (by omega),<-YK _ (by omega)];rfl) rfl;have z0:55296<=r:=by omega
  have z1:decide (55296<=(r:Int))=true:=by simp;omega
  have z2:¬r<=57343:=by omega
  have z3:decide ((r:Int)<=57343)=false:=by simp;omega
  clear h2;go_enter Tryz.func286,Tryz.ntmps286;go_wp2;go_ret2;exact ⟨rfl,((Below.refl _ _).alloc (Nat.le_refl _) _).alloc (by simp) _⟩
 skip;by_cases q1:2048<=r
 ·have hE:(qQ r).map UInt8.ofNat=[UInt8.ofNat (224+r / 4096),UInt8.ofNat (128+r / 64 % 64),UInt8.ofNat (128+r % 64)]:=by unfold qQ;rw [if_neg (by omega),if_neg (by omega),if_pos (by omega)];rfl
  rw [hE];clear hE;have e0:decide (2048<=(r:Int))=true:=by simp;omega
  have e1:decide (65536<=(r:Int))=false:=by simp;omega
  have hC:=Xm (w.alloc (.cells #[.int .u8 ((r:Int) % 256)] 5)) #[.int .u8 (224+(r:Int) / 4096),.int .u8 (128+(r:Int) / 64 % 64),.int .u8 (128+(r:Int) % 64)] [UInt8.ofNat (224+r / 4096),UInt8.ofNat (128+r / 64 % 64),UInt8.ofNat (128+r % 64)] (w.heap.size+1) 3 (by simp) (by simp only [u8s,List.map_cons,List.map_nil];rw [<-YK _ (by omega),<-YK _ (by omega),<-YK _ (by omega)];rfl) rfl;by_cases z:55296<=r
  ·have z1:decide (55296<=(r:Int))=true:=(by simp;omega);have z2:¬r<=57343:=(by omega);have z3:decide ((r:Int)<=57343)=false:=(by simp;omega);clear h2;go_enter Tryz.func286,Tryz.ntmps286;go_wp2;go_ret2;exact ⟨rfl,((Below.refl _ _).alloc (Nat.le_refl _) _).alloc (by simp) _⟩
  have z1:decide (55296<=(r:Int))=false:=by simp;omega
  have z2:¬55296<=r:=by omega
  clear h2;go_enter Tryz.func286,Tryz.ntmps286;go_wp2;go_ret2;exact ⟨rfl,((Below.refl _ _).alloc (Nat.le_refl _) _).alloc (by simp) _⟩
 skip;by_cases q2:128<=r
 ·have hE:(qQ r).map UInt8.ofNat=[UInt8.ofNat (192+r / 64),UInt8.ofNat (128+r % 64)]:=by unfold qQ;rw [if_neg (by omega),if_pos (by omega)];rfl
  rw [hE];clear hE;have e0:decide (128<=(r:Int))=true:=by simp;omega
  have e1:decide (65536<=(r:Int))=false:=by simp;omega
  have e2:decide (2048<=(r:Int))=false:=by simp;omega
  have hC:=Xm (w.alloc (.cells #[.int .u8 ((r:Int) % 256)] 5)) #[.int .u8 (192+(r:Int) / 64),.int .u8 (128+(r:Int) % 64)] [UInt8.ofNat (192+r / 64),UInt8.ofNat (128+r % 64)] (w.heap.size+1) 2 (by simp) (by simp only [u8s,List.map_cons,List.map_nil];rw [<-YK _ (by omega),<-YK _ (by omega)];rfl) rfl;have z1:decide (55296<=(r:Int))=false:=by simp;omega
  have z2:¬55296<=r:=by omega
  clear h2;go_enter Tryz.func286,Tryz.ntmps286;go_wp2;go_ret2;exact ⟨rfl,((Below.refl _ _).alloc (Nat.le_refl _) _).alloc (by simp) _⟩
 skip;have hE:(qQ r).map UInt8.ofNat=[UInt8.ofNat (r)]:=by unfold qQ;rw [if_pos (by omega)];rfl
 rw [hE];clear hE;have e0:decide (65536<=(r:Int))=false:=by simp;omega
 have e1:decide (2048<=(r:Int))=false:=by simp;omega
 have e2:decide (128<=(r:Int))=false:=by simp;omega
 have hC:=Xm w #[.int .u8 (r:Int)] [UInt8.ofNat r] w.heap.size 1 rfl (by simp only [u8s,List.map_cons,List.map_nil];rw [<-YK r (by omega)]) rfl;have hm:(r:Int) % 256=(r:Int):=by omega
 have z1:decide (55296<=(r:Int))=false:=by simp;omega
 have z2:¬55296<=r:=by omega
 clear h2;go_enter Tryz.func286,Tryz.ntmps286;go_wp2;go_ret2;exact ⟨rfl,(Below.refl _ _).alloc (Nat.le_refl _) _⟩
theorem ah3:∀ (r:List Nat) (h:Nat),(r.foldl (fun n b=>64*n+b % 64) h)<(h+1)*64 ^ r.length:=by
 intro r
 induction r with
 | nil=>intro h;simp
 | cons b r ih=>
  intro h;have h1:=ih (64*h+b % 64);rw [List.foldl_cons,List.length_cons,Nat.pow_succ];refine Nat.lt_of_lt_of_le h1 ?_;rw [Nat.mul_comm (64 ^ r.length) 64,<-Nat.mul_assoc];exact Nat.mul_le_mul_right _ (by omega)
def XX (l:List UInt8) (k:Nat):Nat:=(((qq l).drop 1).take (k-1)).foldl (fun n b=>64*n+b % 64) (Zo l.length (l.getD 0 0).toNat)
theorem acx (l:List UInt8) (h:1<=l.length):XX l l.length=yS (qq l):=by
 match l,h with
 | a::r,_=>
  unfold XX yS;simp only [qq,List.map_cons,List.drop_succ_cons,List.drop_zero,List.length_cons,List.getD_cons_zero,List.length_map];rw [List.take_of_length_le (by simp)]
theorem af2 (l:List UInt8) (k:Nat) (b:UInt8) (h1:1<=k) (hb:l[k]? = some b):XX l (k+1)=64*XX l k+b.toNat % 64:=by
 unfold XX;have e:k+1-1=(k-1)+1:=by omega
 have hg:((qq l).drop 1)[k-1]? = some b.toNat:=by
  rw [List.getElem?_drop,qq,List.getElem?_map,show 1+(k-1)=k from by omega,hb];rfl
 rw [e,List.take_add_one,hg,Option.toList_some,List.foldl_append,List.foldl_cons,List.foldl_nil]
theorem ae1 (l:List UInt8) (k:Nat) (hk:k<=4):XX l k<67108864:=by
 unfold XX;have h:=ah3 (((qq l).drop 1).take (k-1)) (Zo l.length (l.getD 0 0).toNat);have h2:(((qq l).drop 1).take (k-1)).length<=3:=by rw [List.length_take];omega
 have h3:Zo l.length (l.getD 0 0).toNat<256:=by
  have:=(l.getD 0 0).toNat_lt;unfold Zo
  repeat' split
  all_goals omega
 have h4:64 ^ (((qq l).drop 1).take (k-1)).length<=64 ^ 3:=Nat.pow_le_pow_right (by omega) h2;have h5:=Nat.mul_le_mul (show Zo l.length (l.getD 0 0).toNat+1<=256 by omega) h4;omega
theorem afk (s:ByteArray) (k:Nat) (h:k<s.size):s.data.toList[k]? = some (s[k]'h):=by
 rw [Array.getElem?_toList];exact Array.getElem?_eq_getElem h
theorem abZ (s:ByteArray) (w:World) (h1:1<=s.size) (h4:s.size<=4) :
  Calls Tryz.prog 285 #[.string s] w fun e w'=>e=.returned (.int .i32 (yS (qq s.data.toList):Int))/\w=w':=by
 have h0:0<s.size:=by omega
 obtain ⟨x,hx⟩:∃ x,s[0]'h0=x:=⟨_,rfl⟩;have hll:s.data.toList.length=s.size:=by rw [Array.length_toList];rfl
 have Hend:=za (acx s.data.toList (by omega));have Hlt:=za (fun k hk=>ae1 s.data.toList k hk);have Hsucc:=za (fun k b h1 hb=>af2 s.data.toList k b h1 hb);have Hat:=za (afk s);have Hll:=za hll;have hx0:(s.data.toList.getD 0 0)=x:=by
  rw [List.getD_eq_getElem?_getD,afk s 0 h0,hx];rfl
 have hstart:XX s.data.toList 1=Zo s.size x.toNat:=by
  unfold XX;rw [hx0,hll];rfl
 have Hstart:=za hstart;have hxl:=x.toNat_lt;clear hstart hx0 hll;by_cases q2:s.size=2
 ·have e2:((s.size:Int)==2)=true:=by simp;omega
  have Q:=za q2;clear q2;go_enter Tryz.func285,Tryz.ntmps285;go_wp2;go_loopw [3,4] (fun n i wr=>∃ k:Nat,1<=k/\k<=s.size/\i=.int .i64 (k:Int)/\n=.int .i64 ((XX s.data.toList k:Nat):Int)/\wr=w) (fun n i _=>4-(intOf i).toNat)
  case atStart=>exact ⟨1,by decide,by omega,rfl,(by rw [Hstart.out,Q.out];simp [Zo]),rfl⟩
  case round=>
   obtain ⟨k,hk1,hk2,rfl,rfl,rfl⟩:=hrel;by_cases hlt:k<s.size
   ·have d1:decide ((k:Int)<(s.size:Int))=true:=(by simp;omega);obtain ⟨y,hy⟩:∃ y,s[k]'hlt=y:=⟨_,rfl⟩;have hyl:=y.toNat_lt;have hb:=Hlt.out k (by omega);have Hs:=za (Hsucc.out k y hk1 (by rw [Hat.out k hlt,hy]));generalize XX s.data.toList k=n0 at *;go_wp2;go_roundw;case rel=>exact ⟨k+1,by omega,by omega,by go_num,by rw [Hs.out];go_num,trivial⟩
    case measure=>simp [intOf];omega
   have d1:decide ((k:Int)<(s.size:Int))=false:=(by simp;omega);obtain rfl:k=s.size:=(by omega);have hb:=Hlt.out s.size (by omega);have hE:=Hend.out;rw [Hll.out] at hE;have HE:=za hE;clear hE;go_wp2;go_ret;exact ⟨by rw [<-HE.out];rfl,rfl⟩
 have e2:((s.size:Int)==2)=false:=by simp;omega
 by_cases q3:s.size=3
 ·have e3:((s.size:Int)==3)=true:=by simp;omega
  have Q:=za q3;clear q3;go_enter Tryz.func285,Tryz.ntmps285;go_wp2;go_loopw [3,4] (fun n i wr=>∃ k:Nat,1<=k/\k<=s.size/\i=.int .i64 (k:Int)/\n=.int .i64 ((XX s.data.toList k:Nat):Int)/\wr=w) (fun n i _=>4-(intOf i).toNat)
  case atStart=>exact ⟨1,by decide,by omega,rfl,(by rw [Hstart.out,Q.out];simp [Zo]),rfl⟩
  case round=>
   obtain ⟨k,hk1,hk2,rfl,rfl,rfl⟩:=hrel;by_cases hlt:k<s.size
   ·have d1:decide ((k:Int)<(s.size:Int))=true:=(by simp;omega);obtain ⟨y,hy⟩:∃ y,s[k]'hlt=y:=⟨_,rfl⟩;have hyl:=y.toNat_lt;have hb:=Hlt.out k (by omega);have Hs:=za (Hsucc.out k y hk1 (by rw [Hat.out k hlt,hy]));generalize XX s.data.toList k=n0 at *;go_wp2;go_roundw;case rel=>exact ⟨k+1,by omega,by omega,by go_num,by rw [Hs.out];go_num,trivial⟩
    case measure=>simp [intOf];omega
   have d1:decide ((k:Int)<(s.size:Int))=false:=(by simp;omega);obtain rfl:k=s.size:=(by omega);have hb:=Hlt.out s.size (by omega);have hE:=Hend.out;rw [Hll.out] at hE;have HE:=za hE;clear hE;go_wp2;go_ret;exact ⟨by rw [<-HE.out];rfl,rfl⟩
 have e3:((s.size:Int)==3)=false:=by simp;omega
 by_cases q4:s.size=4
 ·have e4:((s.size:Int)==4)=true:=by simp;omega
  have Q:=za q4;clear q4;go_enter Tryz.func285,Tryz.ntmps285;go_wp2;go_loopw [3,4] (fun n i wr=>∃ k:Nat,1<=k/\k<=s.size/\i=.int .i64 (k:Int)/\n=.int .i64 ((XX s.data.toList k:Nat):Int)/\wr=w) (fun n i _=>4-(intOf i).toNat)
  case atStart=>exact ⟨1,by decide,by omega,rfl,(by rw [Hstart.out,Q.out];simp [Zo]),rfl⟩
  case round=>
   obtain ⟨k,hk1,hk2,rfl,rfl,rfl⟩:=hrel;by_cases hlt:k<s.size
   ·have d1:decide ((k:Int)<(s.size:Int))=true:=(by simp;omega);obtain ⟨y,hy⟩:∃ y,s[k]'hlt=y:=⟨_,rfl⟩;have hyl:=y.toNat_lt;have hb:=Hlt.out k (by omega);have Hs:=za (Hsucc.out k y hk1 (by rw [Hat.out k hlt,hy]));generalize XX s.data.toList k=n0 at *;go_wp2;go_roundw;case rel=>exact ⟨k+1,by omega,by omega,by go_num,by rw [Hs.out];go_num,trivial⟩
    case measure=>simp [intOf];omega
   have d1:decide ((k:Int)<(s.size:Int))=false:=(by simp;omega);obtain rfl:k=s.size:=(by omega);have hb:=Hlt.out s.size (by omega);have hE:=Hend.out;rw [Hll.out] at hE;have HE:=za hE;clear hE;go_wp2;go_ret;exact ⟨by rw [<-HE.out];rfl,rfl⟩
 have e4:((s.size:Int)==4)=false:=by simp;omega
 have Q:=za (show s.size=1 by omega);go_enter Tryz.func285,Tryz.ntmps285;go_wp2;go_loopw [3,4] (fun n i wr=>∃ k:Nat,1<=k/\k<=s.size/\i=.int .i64 (k:Int)/\n=.int .i64 ((XX s.data.toList k:Nat):Int)/\wr=w) (fun n i _=>4-(intOf i).toNat)
 case atStart=>exact ⟨1,by decide,by omega,rfl,(by rw [Hstart.out,Q.out];simp [Zo]),rfl⟩
 case round=>
  obtain ⟨k,hk1,hk2,rfl,rfl,rfl⟩:=hrel;by_cases hlt:k<s.size
  ·have d1:decide ((k:Int)<(s.size:Int))=true:=(by simp;omega);obtain ⟨y,hy⟩:∃ y,s[k]'hlt=y:=⟨_,rfl⟩;have hyl:=y.toNat_lt;have hb:=Hlt.out k (by omega);have Hs:=za (Hsucc.out k y hk1 (by rw [Hat.out k hlt,hy]));generalize XX s.data.toList k=n0 at *;go_wp2;go_roundw;case rel=>exact ⟨k+1,by omega,by omega,by go_num,by rw [Hs.out];go_num,trivial⟩
   case measure=>simp [intOf];omega
  have d1:decide ((k:Int)<(s.size:Int))=false:=by simp;omega
  obtain rfl:k=s.size:=by omega
  have hb:=Hlt.out s.size (by omega);have hE:=Hend.out;rw [Hll.out] at hE;have HE:=za hE;clear hE;go_wp2;go_ret;exact ⟨by rw [<-HE.out];rfl,rfl⟩
theorem afe (r:Nat) (h:r<=1114111):∀ x∈qQ r,x<256:=by
 unfold qQ;intro x hx
 split at hx
 ·simp at hx;omega
 split at hx
 ·simp at hx;omega
 split at hx
 ·simp at hx;omega
 simp at hx;omega
theorem J9 (l:List Nat) (h:∀ x∈l,x<256):qq (l.map UInt8.ofNat)=l:=by
 unfold qq;rw [List.map_map]
 conv=>rhs;rw [<-List.map_id l]
 exact List.map_congr_left fun x hx=>Zz x (h x hx)
theorem ahy {a b:List UInt8} (h:qq a=qq b):a=b:=(List.map_inj_right (fun _ _ h=>UInt8.toNat_inj.1 h)).1 h
theorem ajM (r:Nat) (t:ByteArray) (h:okR r=true):txt (UJ r)=t ↔ qQ r=qq t.data.toList:=by
 have hr:r<=1114111:=by simp only [okR,decide_eq_true_eq] at h;omega
 unfold UJ;rw [if_pos h];constructor
 ·intro e;rw [<-e];exact (J9 _ (afe r hr)).symm
 intro e;have e2:(qQ r).map UInt8.ofNat=t.data.toList:=ahy ((J9 _ (afe r hr)).trans e);unfold txt;rw [e2]
theorem ab5 (s:ByteArray) (k:Nat) (h:k<=s.size):(s.extract 0 k).data.toList=s.data.toList.take k:=by
 rw [ByteArray.data_extract,Array.toList_extract];simp [List.extract]
theorem ajg (s:ByteArray) (k:Nat) (hk:k<=s.size):X9 k s.data.toList=(okR (yS (qq (s.extract 0 k).data.toList))&&decide (txt (UJ (yS (qq (s.extract 0 k).data.toList)))=s.extract 0 k)):=by
 rw [ab5 s k hk];unfold X9;have hl:decide (k<=s.data.toList.length)=true:=by rw [decide_eq_true];rw [Array.length_toList];exact hk
 rw [hl,Bool.true_and];cases ho:okR (yS (qq (s.data.toList.take k))) with
 | false=>rfl
 | true=>
  rw [Bool.true_and,Bool.true_and];have h:=ajM (yS (qq (s.data.toList.take k))) (s.extract 0 k) ho;rw [ab5 s k hk] at h;by_cases he:qQ (yS (qq (s.data.toList.take k)))=qq (s.data.toList.take k)
  ·rw [decide_eq_true he,decide_eq_true (h.2 he)]
  rw [decide_eq_false he,decide_eq_false (fun e=>he (h.1 e))]
def akI (s:ByteArray) (w:World) (e:Ending) (w':World):Prop:=
 Below w.heap.size w w'/\((∃ n r:Nat,1<=n/\n<=4/\n<=s.size/\X9 n s.data.toList=true/\e=.returned (.tuple #[.int .i32 (r:Int),.int .i64 (n:Int),.bool true])) \/
  ((∀ n,1<=n->n<=4->X9 n s.data.toList=false)/\e=.returned (.tuple #[.int .i32 0,.int .i64 0,.bool false])))
theorem ahP {l:List UInt8} {n:Nat} (h:l.length<n):X9 n l=false:=by
 unfold X9;rw [decide_eq_false (by omega)];rfl
theorem qz (a b:ByteArray):(a.toList==b.toList)=decide (a=b):=by
 by_cases h:a=b
 ·rw [h,decide_eq_true rfl];simp
 rw [decide_eq_false h,Lib.bytes_beq_false_iff];exact h
theorem afo (s:ByteArray) (w:World) (hs:s.size<=maxLen) :
  Calls Tryz.prog 260 #[.string s] w (akI s w):=by
 unfold maxLen at hs;have hll:s.data.toList.length=s.size:=by rw [Array.length_toList];rfl
 have Hll:=za hll;clear hll;go_enter Tryz.func260,Tryz.ntmps260;go_wp2;go_loopw [5] (fun i wr=>∃ k:Nat,1<=k/\k<=5/\i=.int .i64 (k:Int)/\(∀ j,1<=j->j<k->X9 j s.data.toList=false)/\Below w.heap.size w wr) (fun i _=>5-(intOf i).toNat)
 case atStart=>exact ⟨1,by decide,by decide,rfl,fun j h1 h2=>by omega,Below.refl _ _⟩
 case round=>
  obtain ⟨k,hk1,hk5,rfl,hno,hb⟩:=hrel;have Hno:=za hno;have Hb:=za hb;clear hno hb;by_cases hlt:k<=4
  ·have d1:decide ((k:Int)<=4)=true:=(by simp;omega);by_cases hl:k<=s.size
   ·have d2:decide ((k:Int)<=(s.size:Int))=true:=(by simp;omega);have hes:(s.extract 0 k).size=k:=(by rw [ByteArray.size_extract];omega);have Hnum:=za (abZ (s.extract 0 k) · (by omega) (by omega));have Hhit:=za (ajg s k hl);have hrl:yS (qq (s.extract 0 k).data.toList)<67108864:=by
     have h:=ae1 (s.extract 0 k).data.toList (s.extract 0 k).data.toList.length (by rw [Array.length_toList];show (s.extract 0 k).size<=4;omega);rwa [acx _ (by rw [Array.length_toList];show 1<=(s.extract 0 k).size;omega)] at h
    generalize hrr:yS (qq (s.extract 0 k).data.toList)=r at *;have Hput:=za (agO r · (by omega));unfold ake at Hput;clear hrr hes;(go_wp2_with fail);(with_reducible refine (Hnum.out _).mono ?_);rintro e w' ⟨rfl,rfl⟩;(go_wp2_with fail);(with_reducible refine (Hput.out _).mono ?_);rintro e w2 ⟨rfl,hb2⟩;have Hb2:=za (bon Hb.out hb2);clear hb2;cases ho:okR r with
    | false=>
     have hf:X9 k s.data.toList=false:=(by rw [Hhit.out,ho];rfl);have Hf:=za hf;clear hf ho;go_wp2;go_roundw;case rel=>exact ⟨k+1,by omega,by omega,by go_num,(fun j h1 h2=>by by_cases hj:j=k;{ subst hj;exact Hf.out };exact Hno.out j h1 (by omega)),Hb2.out⟩
     case measure=>simp [intOf];omega
    | true=>
     by_cases heq:txt (UJ r)=s.extract 0 k
     ·have hf:X9 k s.data.toList=true:=(by rw [Hhit.out,ho,decide_eq_true heq];rfl);have Hf:=za hf;have hte:((txt (UJ r)).toList==(s.extract 0 k).toList)=true:=(by rw [qz,decide_eq_true heq]);clear hf ho heq;go_wp2
      go_ret3
      exact ⟨Hb2.out,.inl ⟨k,r,hk1,hlt,hl,Hf.out,rfl⟩⟩
     have hf:X9 k s.data.toList=false:=(by rw [Hhit.out,ho,decide_eq_false heq];rfl);have Hf:=za hf;have hte:((txt (UJ r)).toList==(s.extract 0 k).toList)=false:=(by rw [qz,decide_eq_false heq]);clear hf ho heq;go_wp2;go_roundw;case rel=>exact ⟨k+1,by omega,by omega,by go_num,(fun j h1 h2=>by by_cases hj:j=k;{ subst hj;exact Hf.out };exact Hno.out j h1 (by omega)),Hb2.out⟩
     case measure=>simp [intOf];omega
   have d2:decide ((k:Int)<=(s.size:Int))=false:=(by simp;omega);go_wp2
   go_ret3
   exact ⟨Hb.out,.inr ⟨fun n h1 h2=>by by_cases hn:n<k;{ exact Hno.out n h1 hn };exact ahP (by rw [Hll.out];omega),rfl⟩⟩
  have d1:decide ((k:Int)<=4)=false:=by simp;omega
  go_wp2
  go_ret3
  exact ⟨Hb.out,.inr ⟨fun n h1 h2=>Hno.out n h1 (by omega),rfl⟩⟩
theorem adw (s:ByteArray) (w:World) (hs:s.size<=maxLen) :
  Calls Tryz.prog 224 #[.string s] w fun e w'=>e=.returned (.bool (Lib.validD s.data.toList))/\Below w.heap.size w w':=by
 have Hs:=za hs;go_enter Tryz.func224,Tryz.ntmps224;go_wp2
 go_loopg [0] (s.size+1) (fun gk s0 wx=>Below w.heap.size w wx/\∃ t:ByteArray,s0=.string t/\Lib.validD t.data.toList=Lib.validD s.data.toList/\t.size<gk/\t.size<=s.size)
 case atStart=>exact ⟨Below.refl _ _,s,rfl,rfl,by omega,Nat.le_refl _⟩
 case round=>
  obtain ⟨hb,t,rfl,hv,hg,hts⟩:=hrel;have Hb:=za hb;have Hv:=za hv;clear hb hv;by_cases h0:0<t.size
  ·have d1:decide ((0:Int)<(t.size:Int))=true:=(by simp;omega);obtain ⟨g',rfl⟩:∃ g',gk=g'+1:=⟨gk-1,by omega⟩;have htm:t.size<=maxLen:=(by have:=Hs.out;omega);(go_wp2_with fail);(with_reducible refine (afo t _ htm).mono ?_);rintro e w2 ⟨hb2,hcase⟩;have Hb2:=za (bon Hb.out hb2);clear hb2;rcases hcase with ⟨n,r,hn1,hn4,hnl,hh,rfl⟩ | ⟨hno,rfl⟩
   ·have hstep:=(agi _ n hn1 hn4 hh).2;have Hstep:=za hstep;obtain ⟨t2,ht2⟩:∃ t2,t.extract n t.size=t2:=⟨_,rfl⟩;have hz2:t2.size+n=t.size:=(by rw [<-ht2,ByteArray.size_extract];omega);have hd2:t2.data.toList=t.data.toList.drop n:=by
     rw [<-ht2,ByteArray.data_extract,Array.toList_extract];have hll:t.data.toList.length=t.size:=(by rw [Array.length_toList];rfl);show (t.data.toList.drop n).take (t.size-n)=_;exact List.take_of_length_le (by rw [List.length_drop,hll];exact Nat.le_refl _)
    have Hd2:=za hd2;have Hz2:=za hz2;clear hh hstep hd2 hz2;go_wp2
    go_roundg g'
    case measure=>omega
    case rel=>exact ⟨Hb2.out,t2,rfl,by rw [Hd2.out,<-Hstep.out,Hv.out],by have:=Hz2.out;omega,by have:=Hz2.out;omega⟩
   have hf:Lib.validD t.data.toList=false:=ajQ _ (fun h=>by have:t.data.toList.length=t.size:=by { rw [Array.length_toList];rfl };rw [h] at this;simp at this;omega) hno;have Hf:=za hf;clear hno hf;go_wp2;go_ret;exact ⟨by rw [<-Hv.out,Hf.out];rfl,Hb2.out⟩
  have d1:decide ((0:Int)<(t.size:Int))=false:=decide_eq_false (by omega);have hn:t.data.toList=[]:=List.eq_nil_of_length_eq_zero (by rw [Array.length_toList];show t.size=0;omega);have Hn:=za hn;clear hn;go_wp2;go_ret;exact ⟨by rw [<-Hv.out,Hn.out];rfl,Hb.out⟩
end Go.Proofs.YtjpjalmilfgckaaGreatDoor
namespace Go.Proofs
open Go.Shelf
def Tryz.laysValid_ren:Go.Shelf.Ren:=⟨fun | 196=>248 | 259=>274 | n=>n,fun | 9=>9 | 4=>4 | 3=>3 | 5=>5 | 12=>12 | 119=>315 | 0=>0 | 46=>86 | 139=>318 | 138=>317 | 53=>79 | n=>n,fun | 3=>2 | 4=>3 | n=>n⟩
theorem Tryz.laysValid:Go.Proofs.Lays.n196 Tryz.prog Tryz.laysValid_ren:={
 mixed:=by kernel_rfl
 f196:=Tryz.func248.trans (congrArg some (by kernel_rfl))
 f259:=Tryz.func274.trans (congrArg some (by kernel_rfl))
 t0:=Tryz.underlying0
 a0:=Tryz.isAgg0
 z0:=Tryz.sizeOf0
 v0:=Tryz.zeroValue0
 t3:=Tryz.underlying3
 a3:=Tryz.isAgg3
 z3:=Tryz.sizeOf3
 v3:=Tryz.zeroValue3
 t4:=Tryz.underlying4
 a4:=Tryz.isAgg4
 z4:=Tryz.sizeOf4
 v4:=Tryz.zeroValue4
 t5:=Tryz.underlying5
 a5:=Tryz.isAgg5
 z5:=Tryz.sizeOf5
 v5:=Tryz.zeroValue5
 t9:=Tryz.underlying9
 a9:=Tryz.isAgg9
 z9:=Tryz.sizeOf9
 v9:=Tryz.zeroValue9
 t12:=Tryz.underlying12
 a12:=Tryz.isAgg12
 z12:=Tryz.sizeOf12
 v12:=Tryz.zeroValue12
 t46:=Tryz.underlying86
 a46:=Tryz.isAgg86
 z46:=Tryz.sizeOf86
 v46:=Tryz.zeroValue86
 t53:=Tryz.underlying79
 a53:=Tryz.isAgg79
 z53:=Tryz.sizeOf79
 v53:=Tryz.zeroValue79
 t119:=Tryz.underlying315
 a119:=Tryz.isAgg315
 z119:=Tryz.sizeOf315
 t138:=Tryz.underlying317
 a138:=Tryz.isAgg317
 z138:=Tryz.sizeOf317
 v138:=Tryz.zeroValue317
 t139:=Tryz.underlying318
 a139:=Tryz.isAgg318
 z139:=Tryz.sizeOf318
 v139:=Tryz.zeroValue318
 g3:=by kernel_rfl
 g4:=by kernel_rfl }
end Go.Proofs
namespace Go.Proofs.YtjpjalmilfgckaaGreatDoor
open Go.RowKit
def Tabs (w:World):Prop:=Lib.Utf8Tabs 2 3 w
theorem Tabs.on {w w':World} (h:Tabs w) (hb:Below w.heap.size w w'):Tabs w':=Utf8Tabs_below h hb
theorem JS (s:ByteArray) (w:World) (hs:s.size<=9223372036854775807) (hT:Tabs w) :
  Calls Tryz.prog 212 #[.string s] w fun e w'=>e=.returned (.bool (Lib.validD s.data.toList))/\Below w.heap.size w w':=by
 have cV:Calls Tryz.prog 248 #[.string s] w _:=Any.utf8_ValidString Tryz.laysValid s w hs hT;have CV:=za cV;clear cV hT;go_enter Tryz.func212,Tryz.ntmps212;go_wp2_with fail
 with_reducible refine (CV.out).mono ?_
 rintro e w' ⟨rfl,hb⟩;go_wp2;go_ret;exact ⟨rfl,hb⟩
end Go.Proofs.YtjpjalmilfgckaaGreatDoor
namespace Go.Proofs.YtjpjalmilfgckaaGreatDoor
open Go.RowKit
def yZ (k:Int):Bool:=decide (1<=k/\k<=5)
theorem Js (k:Int) (nl:Bool) (w:World):Calls Tryz.prog 103 #[.agg #[.int .i64 k,.bool nl]] w fun e w'=>e=.returned (.bool (yZ k))/\Below w.heap.size w w':=by
 unfold yZ;by_cases h1:0<k
 ·have d1:decide (0<k)=true:=decide_eq_true h1;by_cases h2:k<6
  ·have d2:decide (k<6)=true:=decide_eq_true h2;rw [decide_eq_true (by omega:1<=k/\k<=5)];go_enter Tryz.func103,Tryz.ntmps103;go_wp2;go_ret;exact ⟨rfl,(Below.refl _ _).alloc (Nat.le_refl _) _⟩
  have d2:decide (k<6)=false:=decide_eq_false h2;rw [decide_eq_false (by omega:¬(1<=k/\k<=5))];go_enter Tryz.func103,Tryz.ntmps103;go_wp2;go_ret;exact ⟨rfl,(Below.refl _ _).alloc (Nat.le_refl _) _⟩
 have d1:decide (0<k)=false:=decide_eq_false h1;rw [decide_eq_false (by omega:¬(1<=k/\k<=5))];go_enter Tryz.func103,Tryz.ntmps103;go_wp2;go_ret;exact ⟨rfl,(Below.refl _ _).alloc (Nat.le_refl _) _⟩
def PlainF (w:World) (F:Value) (a b:Int):Prop:=∃ p q:Nat,F=.func (.func 200) #[] #[.pointer (some ⟨p,0,none⟩),.pointer (some ⟨q,0,none⟩)]/\p<w.heap.size/\q<w.heap.size/\w.cell? ⟨p,0,none⟩=some (.int .i64 a)/\w.cell? ⟨q,0,none⟩=some (.int .i64 b)
theorem PlainF.on {w w':World} {F:Value} {a b:Int} (h:PlainF w F a b) (hb:Below w.heap.size w w'):PlainF w' F a b:=by
 obtain ⟨p,q,h1,h2,h3,h4,h5⟩:=h;exact ⟨p,q,h1,Nat.lt_of_lt_of_le h2 hb.size,Nat.lt_of_lt_of_le h3 hb.size,(hb.cell (p:=⟨p,0,none⟩) h2).trans h4,(hb.cell (p:=⟨q,0,none⟩) h3).trans h5⟩
theorem ZP (a b:Int) (w:World):Calls Tryz.prog 199 #[.int .i64 a,.int .i64 b] w fun e w'=>∃ F,e=.returned F/\PlainF w' F a b/\Below w.heap.size w w':=by
 go_enter Tryz.func199,Tryz.ntmps199;go_wp2;go_ret;refine ⟨_,rfl,⟨w.heap.size,w.heap.size+1,rfl,by simp;omega,by simp,?_,?_⟩,((Below.refl _ _).alloc (Nat.le_refl _) _).alloc (by simp) _⟩
 ·simp
 simp
theorem Xb {s:ByteArray} (h:s≠⟨#[]⟩):s.toList.isEmpty=false:=by
 have h2:(s.toList==(⟨#[]⟩:ByteArray).toList)=false:=by rw [qz,decide_eq_false h]
 cases hl:s.toList with
 | nil=>rw [hl] at h2;simp at h2
 | cons a l=>rfl
theorem UL (p q:Nat) (a b n:Int) (nl:Bool) (s:ByteArray) (w:World) (hp:p<w.heap.size) (hq:q<w.heap.size) (h1:w.cell? ⟨p,0,none⟩=some (.int .i64 a)) (h2:w.cell? ⟨q,0,none⟩=some (.int .i64 b)) :
  Calls Tryz.prog 200 #[.agg #[.bool nl,.int .i64 n,.string s],.pointer (some ⟨p,0,none⟩),.pointer (some ⟨q,0,none⟩)] w fun e w'=>e=.returned (.bool (decide (s=⟨#[]⟩/\a<=n/\n<=b)))/\Below w.heap.size w w':=by
 by_cases hs:s=⟨#[]⟩
 ·subst hs;by_cases ha:a<=n
  ·have d1:decide (a<=n)=true:=decide_eq_true ha;have hv:decide ((⟨#[]⟩:ByteArray)=⟨#[]⟩/\a<=n/\n<=b)=decide (n<=b):=(by simp [ha]);rw [hv];clear hv;go_enter Tryz.func200,Tryz.ntmps200;go_wp2;go_ret;exact ⟨rfl,(Below.refl _ _).alloc (Nat.le_refl _) _⟩
  have d1:decide (a<=n)=false:=decide_eq_false ha;have hv:decide ((⟨#[]⟩:ByteArray)=⟨#[]⟩/\a<=n/\n<=b)=false:=by simp [ha]
  rw [hv];clear hv;go_enter Tryz.func200,Tryz.ntmps200;go_wp2;go_ret;exact ⟨rfl,(Below.refl _ _).alloc (Nat.le_refl _) _⟩
 have hte:=Xb hs;have hv:decide (s=⟨#[]⟩/\a<=n/\n<=b)=false:=decide_eq_false (fun h=>hs h.1);rw [hv];clear hv;go_enter Tryz.func200,Tryz.ntmps200;go_wp2;go_ret;exact ⟨rfl,(Below.refl _ _).alloc (Nat.le_refl _) _⟩
abbrev Cl:=Bool×Int×ByteArray
def clV (c:Cl):Value:=.agg #[.bool c.1,.int .i64 c.2.1,.string c.2.2]
def Zd (n:Int) (s:ByteArray):Bool:=decide (n=0/\s.size<=1024)
theorem ae0 (n:Int) (nl:Bool) (s:ByteArray) (w:World):Calls Tryz.prog 201 #[.agg #[.bool nl,.int .i64 n,.string s]] w fun e w'=>e=.returned (.bool (Zd n s))/\Below w.heap.size w w':=by
 unfold Zd;by_cases hn:n=0
 ·subst hn;have hv:decide ((0:Int)=0/\s.size<=1024)=decide (s.size<=1024):=by simp
  rw [hv];clear hv;by_cases hs:s.size<=1024
  ·have d1:decide ((s.size:Int)<=1024)=true:=(by simp;omega);rw [decide_eq_true hs];go_enter Tryz.func201,Tryz.ntmps201;go_wp2;go_ret;exact ⟨rfl,(Below.refl _ _).alloc (Nat.le_refl _) _⟩
  have d1:decide ((s.size:Int)<=1024)=false:=by simp;omega
  rw [decide_eq_false hs];go_enter Tryz.func201,Tryz.ntmps201;go_wp2;go_ret;exact ⟨rfl,(Below.refl _ _).alloc (Nat.le_refl _) _⟩
 have d1:(n==0)=false:=by simp [hn]
 have hv:decide (n=0/\s.size<=1024)=false:=by simp [hn]
 rw [hv];clear hv;go_enter Tryz.func201,Tryz.ntmps201;go_wp2;go_ret;exact ⟨rfl,(Below.refl _ _).alloc (Nat.le_refl _) _⟩
theorem ai9 (p:Nat) (n:Int) (nl:Bool) (s:ByteArray) (w:World) (hp:p<w.heap.size) (h1:w.cell? ⟨p,0,none⟩=some (.func (.func 201) #[] #[])) (hT:Tabs w) :
  Calls Tryz.prog 211 #[.agg #[.bool nl,.int .i64 n,.string s],.pointer (some ⟨p,0,none⟩)] w fun e w'=>e=.returned (.bool (Zd n s&&Lib.validD s.data.toList))/\Below w.heap.size w w':=by
 have HT:=za hT;clear hT;go_enter Tryz.func211,Tryz.ntmps211;go_wp2_with fail
 with_reducible refine (ae0 n nl s _).mono ?_
 rintro e w1 ⟨rfl,hb1⟩;have hb2:=bon (bal (Below.refl _ _) _) hb1;have Hb2:=za hb2;have c2:=((Blk.new w 23 #[.bool nl,.int .i64 n,.string s]).on hb1).cell 2;clear hb1 hb2;cases hsz:Zd n s with
 | false=>
  go_wp2;go_ret;exact ⟨by rw [hsz,Bool.false_and];rfl,Hb2.out⟩
 | true=>
  have hss:s.size<=9223372036854775807:=by
   simp only [Zd,decide_eq_true_eq] at hsz;omega
  go_wp2_with fail
  with_reducible refine (JS s _ hss (HT.out.on Hb2.out)).mono ?_
  rintro e w2 ⟨rfl,hb3⟩;go_wp2;go_ret;exact ⟨by rw [hsz,Bool.true_and];rfl,bon Hb2.out hb3⟩
end Go.Proofs.YtjpjalmilfgckaaGreatDoor
