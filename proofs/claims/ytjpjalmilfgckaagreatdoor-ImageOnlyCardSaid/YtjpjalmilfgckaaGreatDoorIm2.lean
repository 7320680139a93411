/- Part 2 of the walks, merged: each text under its own heading. Conditions: none of its own; each lemma states what it asks. -/
import Derived.Test.YtjpjalmilfgckaaGreatDoorIm1
import Derived.Below
import Derived.WalkKit
import Derived.WalkSpells
import Derived.WalkLawsBesides
import Derived.Laws.OwnMore
import Derived.Deep.AppendLies
import Derived.Deep.Draws
import Derived.Laws.Rows
import Derived.Maps.AppendAt
import Derived.Lib.Hide
import Derived.Outline
import Derived.Lib.Walk
import Derived.Lib.Small
import Derived.Lib.Slices
import Derived.Lib.Strings
import Derived.Lib.ValidLaws
import Derived.Lib.AppendStr
import Derived.Test.YtjpjalmilfgckaaGreatDoorRows
import Derived.Laws.BitsLemmas
import Derived.Laws.MathBits
import Derived.Lib.SlicesS
import Derived.Deep.LoopGhost
import Derived.Shelf.Unicode.ValidAny
import Derived.Test.YtjpjalmilfgckaaGreatDoorProg
set_option maxRecDepth 100000
set_option linter.unusedVariables false
set_option linter.unusedSimpArgs false
namespace Go.Proofs.YtjpjalmilfgckaaGreatDoor
open Go.RowKit
theorem block_of_add (a:Addr) (n:Nat):(a.add n).block=a.block:=by unfold Addr.add;split<;>rfl
theorem add_of_add (a:Addr) (i j:Nat):(a.add i).add j=a.add (i+j):=by
 unfold Addr.add
 by_cases hi:i=0<;>by_cases hj:j=0<;>simp [hi,hj,Nat.add_assoc]
def Reads (w:World) (B size:Nat) (A:Option Addr) (n:Nat) (xs:List Value):Prop:=
 xs.length=n*size/\(0<n->∃ ad,A=some ad/\ad.block<B/\∀ j u,xs[j]? = some u->w.cell? (ad.add j)=some u)
section
variable {w w':World} {B B' size n:Nat} {A:Option Addr} {xs:List Value}
theorem Reads.none_:Reads w B size A 0 []:=⟨by simp,fun h=>absurd h (by omega)⟩
theorem Reads.at_ {k:Nat} (h:Reads w B 1 A n xs) (hk:k<n):∃ ad u,A=some ad/\ad.block<B/\xs[k]? = some u/\w.cell? (ad.add k)=some u:=by
 obtain ⟨ad,e,hb,hc⟩:=h.2 (by omega)
 have hl:k<xs.length:=by have:=h.1;omega
 exact ⟨ad,xs[k],e,hb,List.getElem?_eq_getElem hl,hc k _ (List.getElem?_eq_getElem hl)⟩
theorem Reads.keep (h:Reads w B size A n xs) (hk:∀ p:Addr,p.block<B->w'.cell? p=w.cell? p):Reads w' B size A n xs:=
 ⟨h.1, fun hn => by
  obtain ⟨ad,e,hb,hc⟩:=h.2 hn
  exact ⟨ad,e,hb,fun j u hu=>(hk _ (by rw [block_of_add];exact hb)).trans (hc j u hu)⟩⟩
theorem Reads.more (h:Reads w B size A n xs) (hB:B<=B'):Reads w B' size A n xs:=
 ⟨h.1, fun hn => by
  obtain ⟨ad,e,hb,hc⟩:=h.2 hn
  exact ⟨ad,e,by omega,hc⟩⟩
theorem Reads.below (h:Reads w B size A n xs) (hb:Below B w w'):Reads w' B size A n xs:=h.keep fun _ hp=>hb.cell hp
theorem Reads.on (h:Reads w w.heap.size size A n xs) (hb:Below w.heap.size w w'):Reads w' w'.heap.size size A n xs:=(h.below hb).more hb.size
theorem Reads.drew (h:Reads w B size A n xs):Reads w.drew B size A n xs:=h
theorem Reads.alloc (h:Reads w B size A n xs) (hB:B<=w.heap.size) (o:Obj):Reads (w.alloc o) B size A n xs:=h.keep fun p hp=>World.cell?_alloc_lt w o p (by omega)
theorem Reads.setCell (h:Reads w B size A n xs) {p:Addr} (hB:B<=p.block) (u:Value):Reads (w.setCell p u) B size A n xs:=
 h.keep fun q hq=>World.cell?_setCell_other w p q u (fun e=>by subst e;omega)
theorem Reads.grown (h:Reads w B size A n xs) {row:Option Nat} (hg:w.grownBy w' row) (hB:B<=w.heap.size) (hr:∀ g,row=some g->B<=g):Reads w' B size A n xs:=
 h.keep fun p hp=>World.cell?_of_block (hg.block p.block (by omega) (fun e=>by have:=hr _ e.symm;omega))
theorem Reads.cut (h:Reads w B size A n xs) {k cap:Nat} (hk:k<=n) (hc:n<=cap) :
  Reads w B size (if cap=k then A else A.map (·.add (k*size))) (n-k) (xs.drop (k*size)):=by
 refine ⟨by rw [List.length_drop,h.1,Nat.sub_mul],fun hn=>?_⟩
 obtain ⟨ad,rfl,hb,hcell⟩:=h.2 (by omega)
 rw [if_neg (by omega)]
 refine ⟨ad.add (k*size),rfl,by rw [block_of_add];exact hb,fun j u hu=>?_⟩
 rw [add_of_add]
 exact hcell _ u (by rw [<-hu,List.getElem?_drop])
theorem Reads.head (h:Reads w B size A n xs) {k:Nat} (hk:k<=n):Reads w B size A k (xs.take (k*size)):=by
 refine ⟨by rw [List.length_take,h.1];exact Nat.min_eq_left (Nat.mul_le_mul_right _ hk),fun hn=>?_⟩
 obtain ⟨ad,rfl,hb,hcell⟩:=h.2 (by omega)
 refine ⟨ad,rfl,hb,fun j u hu=>?_⟩
 rw [List.getElem?_take] at hu
 split at hu
 ·exact hcell j u hu
 cases hu
theorem Reads.of_own {base:Nat} {e:TypeId} {c:Nat} (h:w.ownsRow base e size (.slice A n c) n xs):Reads w w.heap.size size A n xs:=by
 refine ⟨h.1,fun hn=>?_⟩
 obtain ⟨g,cap,hv,_,hlt⟩:=h.form hn
 have hA:A=some ⟨g,0,none⟩:=by injection hv
 subst hA
 exact ⟨_,rfl,hlt,h.cells (g:=g) rfl⟩
end
theorem own_shape {w:World} {base:Nat} {e:TypeId} {size n:Nat} {v:Value} {xs:List Value} (h:w.ownsRow base e size v n xs) :
  ∃ A c,v=.slice A n c/\n<=c/\c<=maxLen:=by
 rcases h.2 with ⟨rfl,rfl⟩ | ⟨g,cap,cur,rfl,_,_,h1,h2,_⟩
 ·exact ⟨none,0,rfl,Nat.le_refl _,by simp [maxLen]⟩
 exact ⟨_,cap,rfl,h1,h2⟩
theorem own_mono {w:World} {base base':Nat} {e:TypeId} {size n:Nat} {v:Value} {xs:List Value} (h:w.ownsRow base e size v n xs) (hb:base'<=base):w.ownsRow base' e size v n xs:=by
 refine ⟨h.1,?_⟩
 rcases h.2 with h2 | ⟨g,cap,cur,hv,hg,r⟩
 ·exact .inl h2
 exact .inr ⟨g,cap,cur,hv,Nat.le_trans hb hg,r⟩
theorem reads_new (w:World) (v:Value) (e:TypeId):Reads (w.alloc (.cells #[v] e)) (w.alloc (.cells #[v] e)).heap.size 1 (some ⟨w.heap.size,0,none⟩) 1 [v]:=by
 exact ⟨rfl,fun _=>⟨_,rfl,by simp,cell_one_new _ _ _⟩⟩
theorem reads_lit (w:World) (cs:Array Value) (e:TypeId) (xs:List Value) (b n:Nat) (hb:b=w.heap.size) (h:cs.toList=xs) (hn:n=cs.size) :
  Reads (w.alloc (.cells cs e)) (w.alloc (.cells cs e)).heap.size 1 (some ⟨b,0,none⟩) n xs:=by
 subst h hb hn
 refine ⟨by simp,fun _=>⟨_,rfl,by simp,fun j u hu=>?_⟩⟩
 have hadd:(⟨w.heap.size,0,none⟩:Addr).add j=⟨w.heap.size,j,none⟩:=by unfold Addr.add;split<;>simp_all
 rw [hadd,cell_of_row _ w.heap.size j cs e (0,0) (heap_alloc_new w _)]
 simpa using hu
theorem Reads.al {w:World} {size n:Nat} {A:Option Addr} {xs:List Value} (h:Reads w w.heap.size size A n xs) (o:Obj):Reads (w.alloc o) (w.alloc o).heap.size size A n xs:=
 (h.alloc (Nat.le_refl _) o).more (by simp)
theorem bal {a w:World} (h:Below a.heap.size a w) (o:Obj):Below a.heap.size a (w.alloc o):=h.alloc h.size o
theorem bon {a w w':World} (h:Below a.heap.size a w) (k:Below w.heap.size w w'):Below a.heap.size a w':=h.trans (k.mono h.size)
theorem own_reads {w:World} {base:Nat} {e:TypeId} {size:Nat} {A:Option Addr} {n c:Nat} {xs:List Value} (h:w.ownsRow base e size (.slice A n c) n xs):Reads w w.heap.size size A n xs:=Reads.of_own h
theorem own_below {w w':World} {base:Nat} {e:TypeId} {size n:Nat} {v:Value} {xs:List Value} (h:w.ownsRow base e size v n xs) (hb:Below w.heap.size w w'):w'.ownsRow base e size v n xs:=by
 refine ⟨h.1,?_⟩
 rcases h.2 with h2 | ⟨g,cap,cur,hv,hg,hh,r⟩
 ·exact .inl h2
 exact .inr ⟨g,cap,cur,hv,hg,(hb.block g (by
  rcases Nat.lt_or_ge g w.heap.size with hlt | hge
  ·exact hlt
  rw [Array.getElem?_eq_none hge] at hh;cases hh)).trans hh,r⟩
def App (w:World) (base:Nat) (e:TypeId) (size:Nat) (A:Option Addr) (n c:Nat) (xs:List Value):Prop:=
 w.ownsRow base e size (.slice A n c) n xs\/(c=n/\Reads w w.heap.size size A n xs)
theorem App.reads {w:World} {base:Nat} {e:TypeId} {size:Nat} {A:Option Addr} {n c:Nat} {xs:List Value} (h:App w base e size A n c xs):Reads w w.heap.size size A n xs:=by
 rcases h with h | h
 ·exact Reads.of_own h
 exact h.2
theorem App.alloc {w:World} {base:Nat} {e:TypeId} {size:Nat} {A:Option Addr} {n c:Nat} {xs:List Value} (h:App w base e size A n c xs) (o:Obj):App (w.alloc o) base e size A n c xs:=by
 rcases h with h | h
 ·exact .inl (h.alloc o)
 exact .inr ⟨h.1,(h.2.alloc (Nat.le_refl _) o).more (by simp)⟩
section
variable {P:Program} (w:World)
theorem run_append_of_nil (base:Nat) (t ty e:TypeId) (i:TypeInfo) (size:Nat) (ht:P.underlying t=some (.slice e)) (hi:P.info? e=some i)
  (v:Value) (n:Nat) (xs:List Value) (hown:w.ownsRow base e size v n xs) (c:Nat):(Builtin.append_ #[t,t] ty #[v,.slice none 0 c]).run P w=.ok v w:=by
 rcases hown.2 with ⟨rfl,rfl⟩ | ⟨g,cap,cur,rfl,_,_,hnc,_⟩
 ·simp [Builtin.append_,run_underlying ht,sizeOf,typeInfo,hi,Builtin.lenOf,Builtin.firstCells]
 simp [Builtin.append_,run_underlying ht,sizeOf,typeInfo,hi,Builtin.lenOf,Builtin.firstCells,hnc,storeCells]
theorem run_append_any (base:Nat) (t ty e:TypeId) (i:TypeInfo) (z:Value) (size bytes:Nat) (ht:P.underlying t=some (.slice e)) (hi:P.info? e=some i) (hz:i.zero=some z)
  (hsize:i.size=size) (hby:i.bytes=bytes) (hzs:z.cells.size=size) (hsz:0<size)
  (v:Value) (n:Nat) (xs:List Value) (hown:w.ownsRow base e size v n xs)
  (B:Nat) (A:Option Addr) (m c:Nat) (news:List Value) (hr:Reads w B size A m news) (h1:∀ u∈news,u.oneCell'=true)
  (h63:n+m<=maxLen) (hbytes:(n+m)*bytes<=140737488355328) (hbase:base<=w.heap.size) :
  ∃ v' w',(Builtin.append_ #[t,t] ty #[v,.slice A m c]).run P w=.ok v' w'/\w'.ownsRow base e size v' (n+m) (xs++news)/\w.grownBy w' v.ownBlock /\
   (v'.ownBlock=v.ownBlock\/v'.ownBlock=some w.heap.size):=by
 rcases A with _ | ad
 ·have hm:m=0:=by
   rcases Nat.eq_zero_or_pos m with h0 | h0
   ·exact h0
   obtain ⟨ad,h,_⟩:=hr.2 h0
   cases h
  subst hm
  have hn:news=[]:=List.eq_nil_of_length_eq_zero (by simpa using hr.1)
  subst hn
  exact ⟨v,w,run_append_of_nil w base t ty e i size ht hi v n xs hown c,by simpa using hown,World.grownBy.refl w _,.inl rfl⟩
 have hcells:∀ j u,news[j]? = some u->w.cell? (ad.add j)=some u:=by
  intro j u hu
  rcases Nat.eq_zero_or_pos m with h0 | h0
  ·subst h0
   have hn:news=[]:=List.eq_nil_of_length_eq_zero (by simpa using hr.1)
   subst hn
   simp at hu
  obtain ⟨ad',h,_,hc⟩:=hr.2 h0
  injection h with h
  subst h
  exact hc j u hu
 obtain ⟨v',w',hrun,h2,h3,_,h5⟩:=run_append_own_at (P:=P) w base t ty e i z size bytes ht hi hz hsize hby hzs hsz v n xs hown ad m c news hr.1 hcells h1 h63 hbytes hbase
 exact ⟨v',w',hrun,h2,h3,h5⟩
theorem run_append_app (base:Nat) (t ty e:TypeId) (i:TypeInfo) (z:Value) (size bytes:Nat) (ht:P.underlying t=some (.slice e)) (hi:P.info? e=some i) (hz:i.zero=some z)
  (hsize:i.size=size) (hby:i.bytes=bytes) (hzs:z.cells.size=size) (hsz:0<size)
  (A0:Option Addr) (n c0:Nat) (xs:List Value) (happ:App w base e size A0 n c0 xs)
  (A:Option Addr) (m c:Nat) (news:List Value) (hr:Reads w w.heap.size size A m news) (h1:∀ u∈news,u.oneCell'=true)
  (hm:0<m) (h63:n+m<=maxLen) (hbytes:(n+m)*bytes<=70368744177664) (hbase:base<=w.heap.size) :
  ∃ A' c' w',(Builtin.append_ #[t,t] ty #[.slice A0 n c0,.slice A m c]).run P w=.ok (.slice A' (n+m) c') w'/\w'.ownsRow base e size (.slice A' (n+m) c') (n+m) (xs++news) /\
   Below base w w'/\w.grownBy w' (Value.slice A0 n c0).ownBlock/\n+m<=c'/\c'<=maxLen:=by
 rcases happ with hown | ⟨rfl,hrd⟩
 ·obtain ⟨v',w',hrun,h2,h3,h5⟩:=run_append_any (P:=P) w base t ty e i z size bytes ht hi hz hsize hby hzs hsz _ n xs hown _ A m c news hr h1 h63 (by omega) hbase
  obtain ⟨A',c',rfl,hl1,hl2⟩:=own_shape h2
  exact ⟨A',c',w',hrun,h2,(Below.refl _ _).grown h3 hbase (fun k hk=>(hown.lt k hk).1),h3,hl1,hl2⟩
 obtain ⟨ad,rfl,_,hc⟩:=hr.2 hm
 subst hsize hby
 rcases A0 with _ | a0
 ·have hn:c0=0:=by
   rcases Nat.eq_zero_or_pos c0 with h0 | h0
   ·exact h0
   obtain ⟨ad,h,_⟩:=hrd.2 h0
   cases h
  subst hn
  have hn:xs=[]:=List.eq_nil_of_length_eq_zero (by simpa using hrd.1)
  subst hn
  have hown:w.ownsRow base e i.size (.slice none 0 0) 0 []:=World.ownsRow_nil _ _ _ _
  obtain ⟨v',w',hrun,h2,h3,h5⟩:=run_append_any (P:=P) w base t ty e i z i.size i.bytes ht hi hz rfl rfl hzs hsz _ 0 [] hown _ (some ad) m c news hr h1 h63 (by omega) hbase
  obtain ⟨A',c',rfl,hl1,hl2⟩:=own_shape h2
  exact ⟨A',c',w',hrun,h2,(Below.refl _ _).grown h3 hbase (fun k hk=>(hown.lt k hk).1),h3,hl1,hl2⟩
 have holds:∀ j u,xs[j]? = some u->w.cell? (a0.add j)=some u:=by
  intro j u hu
  rcases Nat.eq_zero_or_pos c0 with h0 | h0
  ·subst h0
   have hn:xs=[]:=List.eq_nil_of_length_eq_zero (by simpa using hrd.1)
   subst hn
   simp at hu
  obtain ⟨ad',h,_,hc⟩:=hrd.2 h0
  injection h with h
  subst h
  exact hc j u hu
 have h63':c0+m<=9223372036854775807:=by simp only [maxLen] at h63;omega
 have hrun:=run_append_grow (P:=P) w t ty e i z ht hi hz a0 c0 c0 xs hrd.1 holds ad m c news hr.1 hc (by omega) (by omega) (growslice_fits (by omega) (by omega))
 have hge:=grownCap_ge w (c0+m) c0 e
 have hcm:grownCap w (c0+m) c0 e<=maxLen:=grownCap_le_maxLen w (c0+m) c0 e h63
 have hlen:(xs++news).length=(c0+m)*i.size:=by rw [List.length_append,hrd.1,hr.1,Nat.add_mul]
 refine ⟨_,_,_,hrun,⟨hlen,.inr ⟨w.heap.size,_,_,rfl,hbase,heap_alloc_new w.drew _,hge,hcm,?_,?_⟩⟩,(Below.refl _ _).drew.alloc hbase _,⟨rfl,rfl,rfl,by simp,fun k hk _=>Below.heap_alloc w.drew _ k hk⟩,hge,hcm⟩
 ·simp only [Array.size_append,List.size_toArray,size_zeroCells,hzs,hrd.1,hr.1,<-Nat.add_mul]
  congr 1
  omega
 simp only [Array.toList_append,List.append_assoc]
 rw [<-List.append_assoc,<-hlen]
 exact List.take_left
theorem wpList_append_app {ops:Array Oper} {rest:List Oper} {o:Oper} {a:Act} {Q:Exit->Act->World->Prop} (hgd:o.guard=none) (s x:Operand) (t:TypeId)
  (ho:o.op=.call { callee:=.builtin .append,args:=#[s,x],argTypes:=#[t,t] })
  (base:Nat) (e:TypeId) (i:TypeInfo) (z:Value) (size bytes:Nat) (ht:P.underlying t=some (.slice e)) (hi:P.info? e=some i) (hz:i.zero=some z)
  (hsize:i.size=size) (hby:i.bytes=bytes) (hzs:z.cells.size=size) (hsz:0<size)
  (A0:Option Addr) (n c0:Nat) (xs:List Value) (hs:a.eval s=.slice A0 n c0) (happ:App w base e size A0 n c0 xs)
  (A:Option Addr) (m c:Nat) (news:List Value) (hx:a.eval x=.slice A m c) (hr:Reads w w.heap.size size A m news) (h1:∀ u∈news,u.oneCell'=true)
  (hm:0<m) (h63:n+m<=maxLen) (hbytes:(n+m)*bytes<=70368744177664) (hbase:base<=w.heap.size)
  (h:∀ A' c' w',w'.ownsRow base e size (.slice A' (n+m) c') (n+m) (xs++news)->Below base w w'->w.grownBy w' (Value.slice A0 n c0).ownBlock->n+m<=c'->c'<=maxLen->wpList P ops Q rest (a.put o.dst (.slice A' (n+m) c')) w'):wpList P ops Q (o::rest) a w:=
 wpList_plain hgd fun K hK=>by
  obtain ⟨A',c',w',hrun,h2,h3,h4,h5,h6⟩:=run_append_app (P:=P) w base t o.type e i z size bytes ht hi hz hsize hby hzs hsz A0 n c0 xs happ A m c news hr h1 hm h63 hbytes hbase
  unfold Oper.wp execOp
  simp only [ho,resolve,invoke,builtin,Sem.run_bind,Sem.run_pure,Result.andThen_ok,List.map_toArray,List.map_cons,List.map_nil,hs,hx,hrun]
  exact hK _ _ (h A' c' w' h2 h3 h4 h5 h6)
theorem wpList_append_any {ops:Array Oper} {rest:List Oper} {o:Oper} {a:Act} {Q:Exit->Act->World->Prop} (hgd:o.guard=none) (s x:Operand) (t:TypeId)
  (ho:o.op=.call { callee:=.builtin .append,args:=#[s,x],argTypes:=#[t,t] })
  (base:Nat) (e:TypeId) (i:TypeInfo) (z:Value) (size bytes:Nat) (ht:P.underlying t=some (.slice e)) (hi:P.info? e=some i) (hz:i.zero=some z)
  (hsize:i.size=size) (hby:i.bytes=bytes) (hzs:z.cells.size=size) (hsz:0<size)
  (A0:Option Addr) (n c0:Nat) (xs:List Value) (hs:a.eval s=.slice A0 n c0) (hown:w.ownsRow base e size (.slice A0 n c0) n xs)
  (A:Option Addr) (m c:Nat) (news:List Value) (hx:a.eval x=.slice A m c) (hr:Reads w w.heap.size size A m news) (h1:∀ u∈news,u.oneCell'=true)
  (h63:n+m<=maxLen) (hbytes:(n+m)*bytes<=70368744177664) (hbase:base<=w.heap.size)
  (h:∀ A' c' w',w'.ownsRow base e size (.slice A' (n+m) c') (n+m) (xs++news)->Below base w w'->w.grownBy w' (Value.slice A0 n c0).ownBlock->n+m<=c'->c'<=maxLen->wpList P ops Q rest (a.put o.dst (.slice A' (n+m) c')) w'):wpList P ops Q (o::rest) a w:=
 wpList_plain hgd fun K hK=>by
  obtain ⟨v',w',hrun,h2,h3,h5⟩:=run_append_any (P:=P) w base t o.type e i z size bytes ht hi hz hsize hby hzs hsz _ n xs hown _ A m c news hr h1 h63 (by omega) hbase
  obtain ⟨A',c',rfl,hl1,hl2⟩:=own_shape h2
  unfold Oper.wp execOp
  simp only [ho,resolve,invoke,builtin,Sem.run_bind,Sem.run_pure,Result.andThen_ok,List.map_toArray,List.map_cons,List.map_nil,hs,hx,hrun]
  exact hK _ _ (h A' c' w' h2 ((Below.refl _ _).grown h3 hbase (fun k hk=>(hown.lt k hk).1)) h3 hl1 hl2)
theorem wp_append_any {o:Oper} {a:Act} {K:Act->World->Prop} {Q:Exit->Act->World->Prop} (s x:Operand) (t:TypeId)
 (ho:o.op=.call { callee:=.builtin .append,args:=#[s,x],argTypes:=#[t,t] })
 (base:Nat) (e:TypeId) (i:TypeInfo) (z:Value) (size bytes:Nat) (ht:P.underlying t=some (.slice e)) (hi:P.info? e=some i) (hz:i.zero=some z)
 (hsize:i.size=size) (hby:i.bytes=bytes) (hzs:z.cells.size=size) (hsz:0<size)
 (A0:Option Addr) (n c0:Nat) (xs:List Value) (hs:a.eval s=.slice A0 n c0) (hown:w.ownsRow base e size (.slice A0 n c0) n xs)
 (A:Option Addr) (m c:Nat) (news:List Value) (hx:a.eval x=.slice A m c) (hr:Reads w w.heap.size size A m news) (h1:∀ u∈news,u.oneCell'=true)
 (h63:n+m<=maxLen) (hbytes:(n+m)*bytes<=70368744177664) (hbase:base<=w.heap.size)
 (h:∀ A' c' w',w'.ownsRow base e size (.slice A' (n+m) c') (n+m) (xs++news)->Below base w w'->w.grownBy w' (Value.slice A0 n c0).ownBlock->n+m<=c'->c'<=maxLen->K (a.put o.dst (.slice A' (n+m) c')) w'):o.wp P a w K Q:=by
 obtain ⟨v',w',hrun,h2,h3,h5⟩:=run_append_any (P:=P) w base t o.type e i z size bytes ht hi hz hsize hby hzs hsz _ n xs hown _ A m c news hr h1 h63 (by omega) hbase
 obtain ⟨A',c',rfl,hl1,hl2⟩:=own_shape h2
 unfold Oper.wp execOp
 simp only [ho,resolve,invoke,builtin,Sem.run_bind,Sem.run_pure,Result.andThen_ok,List.map_toArray,List.map_cons,List.map_nil,hs,hx,hrun]
 exact (h A' c' w' h2 ((Below.refl _ _).grown h3 hbase (fun k hk=>(hown.lt k hk).1)) h3 hl1 hl2)
end
def u8s (l:List UInt8):List Value:=l.map fun b=>.int .u8 (b.toNat:Int)
@[simp] theorem u8s_length (l:List UInt8):(u8s l).length=l.length:=by simp [u8s]
theorem u8s_append (l m:List UInt8):u8s (l++m)=u8s l++u8s m:=by simp [u8s]
theorem u8s_take (l:List UInt8) (k:Nat):(u8s l).take k=u8s (l.take k):=by simp [u8s,List.map_take]
theorem u8s_drop (l:List UInt8) (k:Nat):(u8s l).drop k=u8s (l.drop k):=by simp [u8s,List.map_drop]
theorem u8s_one (l:List UInt8):∀ u∈u8s l,u.oneCell'=true:=by
 intro u hu
 simp only [u8s,List.mem_map] at hu
 obtain ⟨b,_,rfl⟩:=hu
 rfl
theorem one_int (k:IntKind) (n:Int):∀ u∈[Value.int k n],u.oneCell'=true:=by
 intro u hu
 obtain rfl:u=.int k n:=by simpa using hu
 rfl
theorem u8_cell (m:Nat) (h:m<256):[Value.int .u8 (m:Int)]=u8s [UInt8.ofNat m]:=by
 simp [u8s,Nat.mod_eq_of_lt h]
theorem u8_or128 (m:Nat):[Value.int .u8 (bits .or .u8 ((m:Int) % 256) 128)]=u8s [UInt8.ofNat (m % 128+128)]:=by
 have h:((m:Int) % 256)=((m % 256:Nat):Int):=by omega
 have h2:∀ k,k<256->k ||| 128=k % 128+128:=by decide +kernel
 rw [h,show (128:Int)=((128:Nat):Int) from rfl,u8_or_nat _ _ (by omega) (by omega),h2 _ (by omega),<-u8_cell _ (by omega)]
 have:m % 256 % 128=m % 128:=by omega
 rw [this]
theorem u8s_get (xs:List UInt8) (k:Nat) (v:Value) (h:(u8s xs)[k]? = some v):∃ c:UInt8,xs[k]? = some c/\v=.int .u8 (c.toNat:Int):=by
 simp only [u8s,List.getElem?_map,Option.map_eq_some_iff] at h
 obtain ⟨c,h1,h2⟩:=h
 exact ⟨c,h1,h2.symm⟩
theorem reads_len {w:World} {B n:Nat} {A:Option Addr} {l:List UInt8} (h:Reads w B 1 A n (u8s l)):l.length=n:=by
 have:=h.1
 simpa using this
theorem foldl_push (l:List UInt8):∀ s:ByteArray,(l.map fun b=>(b.toNat:Int)).foldl (fun r n=>r.push (UInt8.ofNat n.toNat)) s=⟨s.data++l.toArray⟩:=by
 induction l with
 | nil=>intro s;simp
 | cons b l ih=>
  intro s
  simp only [List.map_cons,List.foldl_cons]
  rw [ih]
  have:UInt8.ofNat ((b.toNat:Int)).toNat=b:=by simp
  rw [this]
  congr 1
  show s.data.push b++l.toArray=_
  simp
theorem run_bytes_string {P:Program} (w:World) (src dst e:TypeId) (hs:P.underlying src=some (.slice e)) (he:P.underlying e=some (.int .u8)) (hd:P.underlying dst=some .string)
  (B:Nat) (A:Option Addr) (n c:Nat) (l:List UInt8) (hr:Reads w B 1 A n (u8s l)) :
  (convert src dst (.slice A n c)).run P w=.ok (.string ⟨l.toArray⟩) w:=by
 rw [run_convert_bytes_string w src dst e A n c hs he hd]
 have hlen:l.length=n:=by have:=hr.1;simpa using this
 rcases A with _ | ad
 ·have hn:n=0:=by
   rcases Nat.eq_zero_or_pos n with h0 | h0
   ·exact h0
   obtain ⟨ad,h,_⟩:=hr.2 h0
   cases h
  subst hn
  have:l=[]:=List.eq_nil_of_length_eq_zero hlen
  subst this
  simp [Conv.bytesToString]
  rfl
 have hcells:∀ j u,(u8s l)[j]? = some u->w.cell? (ad.add j)=some u:=by
  intro j u hu
  rcases Nat.eq_zero_or_pos n with h0 | h0
  ·subst h0
   have:l=[]:=List.eq_nil_of_length_eq_zero hlen
   subst this
   simp [u8s] at hu
  obtain ⟨ad',h,_,hc⟩:=hr.2 h0
  injection h with h
  subst h
  exact hc j u hu
 have hload:=run_firstCells_some (P:=P) w 1 n ad n c (u8s l) (by simpa using hlen) hcells
 rw [run_bytesToString w ad n c (l.map fun b=>(b.toNat:Int)) ?_]
 ·rw [foldl_push];simp [ByteArray.empty,ByteArray.emptyWithCapacity];rfl
 simp only [Builtin.firstCells,Nat.mul_one] at hload
 rw [hload]
 simp [u8s,Function.comp_def]
theorem bytes_of_row {w:World} {a:Option Addr} {len cap:Nat} {zs:List Int} (h:(a=none/\len=0/\cap=0/\zs=[]) \/
  ∃ x,a=some x/\len<=cap/\cap<=maxLen/\zs.length=cap/\(∀ i,i<zs.length->w.cell? (x.add i)=some (.int .u8 (zs.getD i 0)))/\∀ n∈zs,(Lit.int .u8 n).wf=true) :
  ∃ xs:List UInt8,Reads w w.heap.size 1 a len (u8s xs)/\len<=cap/\cap<=maxLen:=by
 rcases h with ⟨rfl,rfl,rfl,rfl⟩ | ⟨x,rfl,hl,hc,hz,hcell,hwf⟩
 ·exact ⟨[],Reads.none_,Nat.le_refl _,by simp [maxLen]⟩
 have hx:∀ j u,(u8s ((zs.take len).map fun n=>UInt8.ofNat n.toNat))[j]? = some u->w.cell? (x.add j)=some u:=by
  intro j u hu
  simp only [u8s,List.getElem?_map,Option.map_eq_some_iff,List.getElem?_take] at hu
  obtain ⟨b,⟨n,hn,rfl⟩,rfl⟩:=hu
  split at hn
  ·obtain ⟨hj,rfl⟩:=List.getElem?_eq_some_iff.1 hn
   have hw:=hwf _ (List.getElem_mem hj)
   have hb:0<=zs[j]/\zs[j]<=255:=by simpa [Lit.wf,IntKind.min,IntKind.max,IntKind.signed,IntKind.bits] using hw
   rw [hcell j hj,List.getD_eq_getElem?_getD,List.getElem?_eq_getElem hj]
   simp only [Option.getD_some,Option.some.injEq,Value.int.injEq,true_and,UInt8.toNat_ofNat']
   omega
  cases hn
 refine ⟨_,⟨?_,fun hn=>⟨x,rfl,?_,hx⟩⟩,hl,hc⟩
 ·simp only [u8s_length,List.length_map,List.length_take];omega
 have h0:=hcell 0 (by omega)
 have:=World.block_lt_of_cell? _ _ h0
 rwa [block_of_add] at this
theorem bounds_i64 {a:Int} (h:(Lit.int .i64 a).wf=true) : -9223372036854775808<=a/\a<=9223372036854775807:=by
 simpa [Lit.wf,IntKind.min,IntKind.max,IntKind.signed,IntKind.bits] using h
def Blk (w:World) (g:Nat) (t:TypeId) (cs:Array Value):Prop:=w.heap[g]? = some (.cells cs t (0,0))
section
variable {w w':World} {g:Nat} {t:TypeId} {cs:Array Value}
theorem Blk.lt (h:Blk w g t cs):g<w.heap.size:=by
 rcases Nat.lt_or_ge g w.heap.size with hlt | hge
 ·exact hlt
 unfold Blk at h;rw [Array.getElem?_eq_none hge] at h;cases h
theorem Blk.cell (h:Blk w g t cs) (i:Nat):w.cell? ⟨g,i,none⟩=cs[i]? := cell_of_row w g i cs t (0,0) h
theorem Blk.frozen (h:Blk w g t cs) (i:Nat):w.frozen? ⟨g,i,none⟩=false:=by
 unfold Blk at h
 simp [World.frozen?,h]
theorem Blk.new (w:World) (t:TypeId) (cs:Array Value):Blk (w.alloc (.cells cs t)) w.heap.size t cs:=heap_alloc_new w _
theorem Blk.drew (h:Blk w g t cs):Blk w.drew g t cs:=h
theorem Blk.alloc (h:Blk w g t cs) (o:Obj):Blk (w.alloc o) g t cs:=(Below.heap_alloc w o g h.lt).trans h
theorem Blk.set_ (h:Blk w g t cs) (i:Nat) (u:Value):Blk (w.setCell ⟨g,i,none⟩ u) g t (cs.setIfInBounds i u):=by
 unfold Blk at h ⊢
 simp [World.setCell,Array.getElem?_modify,h]
theorem Blk.far (h:Blk w g t cs) {p:Addr} (hp:g≠p.block) (u:Value):Blk (w.setCell p u) g t cs:=(Below.heap_setCell w p u g hp).trans h
theorem Blk.below {B:Nat} (h:Blk w g t cs) (hb:Below B w w') (hg:g<B):Blk w' g t cs:=(hb.block g hg).trans h
theorem Blk.on (h:Blk w g t cs) (hb:Below w.heap.size w w'):Blk w' g t cs:=h.below hb h.lt
theorem Blk.own (h:Blk w g t cs) {base n:Nat} {xs:List Value} (hg:base<=g) (hn:cs.toList=xs) (hl:xs.length=n) (hm:n<=maxLen):w.ownsRow base t 1 (.slice (some ⟨g,0,none⟩) n n) n xs:=by
 subst hn
 refine ⟨by simpa using hl,.inr ⟨g,n,cs,rfl,hg,h,Nat.le_refl _,hm,by simpa using hl,?_⟩⟩
 rw [Nat.mul_one,List.take_of_length_le (by omega)]
end
theorem bset {a w:World} (h:Below a.heap.size a w) {p:Addr} (hp:a.heap.size<=p.block) (u:Value):Below a.heap.size a (w.setCell p u):=h.setCell hp u
theorem own_at {w:World} {base:Nat} {e:TypeId} {n c:Nat} {A:Option Addr} {xs:List Value} (h:w.ownsRow base e 1 (.slice A n c) n xs) (hn:0<n) :
  ∃ g,A=some ⟨g,0,none⟩/\base<=g/\g<w.heap.size/\(∀ j u,xs[j]? = some u->w.cell? ⟨g,j,none⟩=some u)/\(∀ j,w.frozen? ⟨g,j,none⟩=false):=by
 rcases h.2 with ⟨h0,h1⟩ | ⟨g,cap,cur,hv,hb,hh,h1,h2,h3,h4⟩
 ·omega
 injection hv with hA _ hc
 subst hA hc
 refine ⟨g,rfl,hb,Blk.lt hh,fun j u hu=>?_,fun j=>Blk.frozen hh j⟩
 have:=World.ownsRow.cells h (g:=g) rfl j u hu
 rwa [show (⟨g,0,none⟩:Addr).add j=⟨g,j,none⟩ by unfold Addr.add;split<;>simp_all] at this
def bls (l:List Bool):List Value:=l.map Value.bool
@[simp] theorem bls_length (l:List Bool):(bls l).length=l.length:=by simp [bls]
theorem bls_append (l m:List Bool):bls (l++m)=bls l++bls m:=by simp [bls]
theorem bls_get (xs:List Bool) (k:Nat) (v:Value) (h:(bls xs)[k]? = some v):∃ c:Bool,xs[k]? = some c/\v=.bool c:=by
 simp only [bls,List.getElem?_map,Option.map_eq_some_iff] at h
 obtain ⟨c,h1,h2⟩:=h
 exact ⟨c,h1,h2.symm⟩
theorem blen {w:World} {B n:Nat} {A:Option Addr} {l:List Bool} (h:Reads w B 1 A n (bls l)):l.length=n:=by
 have:=h.1
 simpa using this
theorem one_bool (b:Bool):∀ u∈[Value.bool b],u.oneCell'=true:=by
 intro u hu
 obtain rfl:u=.bool b:=by simpa using hu
 rfl
theorem u8s_set (l:List UInt8) (i:Nat) (c:UInt8):(u8s l).set i (.int .u8 (c.toNat:Int))=u8s (l.set i c):=by
 simp [u8s,List.map_set]
end Go.Proofs.YtjpjalmilfgckaaGreatDoor
namespace Go.Proofs.YtjpjalmilfgckaaGreatDoor
open Go.RowKit
def nats (l:List UInt8):List Nat:=l.map UInt8.toNat
@[simp] theorem nats_length (l:List UInt8):(nats l).length=l.length:=by simp [nats]
end Go.Proofs.YtjpjalmilfgckaaGreatDoor
namespace Go.Proofs.YtjpjalmilfgckaaGreatDoor
open Go.RowKit
section
variable {P:Program}
theorem wpList_append_str {ops:Array Oper} {rest:List Oper} {o:Oper} {a:Act} {Q:Exit->Act->World->Prop} {w:World} (hgd:o.guard=none) (sl x:Operand) (t u:TypeId)
  (ho:o.op=.call { callee:=.builtin .append,args:=#[sl,x],argTypes:=#[t,u] })
  (base:Nat) (e:TypeId) (i:TypeInfo) (ht:P.underlying t=some (.slice e)) (hu:P.underlying u=some .string) (hi:P.info? e=some i) (hz:i.zero=some (.int .u8 0))
  (hsize:i.size=1) (hby:i.bytes=1)
  (A:Option Addr) (n c:Nat) (xs:List UInt8) (hs:a.eval sl=.slice A n c) (hown:w.ownsRow base e 1 (.slice A n c) n (u8s xs)) (s:ByteArray) (hx:a.eval x=.string s)
  (h63:n+s.data.toList.length<=70368744177664) (hbase:base<=w.heap.size)
  (h:∀ A' c' w',w'.ownsRow base e 1 (.slice A' (n+s.data.toList.length) c') (n+s.data.toList.length) (u8s (xs++s.data.toList))->Below base w w'->w.grownBy w' (Value.slice A n c).ownBlock->n+s.data.toList.length<=c'->c'<=maxLen->wpList P ops Q rest (a.put o.dst (.slice A' (n+s.data.toList.length) c')) w'):wpList P ops Q (o::rest) a w:=by
 have hlen:s.data.toList.length=s.size:=by rw [Array.length_toList];rfl
 refine Lib.wpList_append_own_string w hgd sl x t u ho base e i ht hu hi hz hsize hby _ n _ hs hown s hx (by simp only [maxLen];omega) (by omega) hbase ?_
 intro v' w' h1 h2 h3
 obtain ⟨A',c',rfl,h4,h5⟩:=own_shape h1
 rw [<-hlen] at h1 h4 ⊢
 refine h A' c' w' ?_ ((Below.refl _ _).grown h2 hbase (fun k hk=>(hown.lt k hk).1)) h2 h4 h5
 rw [u8s_append]
 exact h1
theorem wp_append_str {o:Oper} {a:Act} {K:Act->World->Prop} {Q:Exit->Act->World->Prop} {w:World} (sl x:Operand) (t u:TypeId)
  (ho:o.op=.call { callee:=.builtin .append,args:=#[sl,x],argTypes:=#[t,u] })
  (base:Nat) (e:TypeId) (i:TypeInfo) (ht:P.underlying t=some (.slice e)) (hu:P.underlying u=some .string) (hi:P.info? e=some i) (hz:i.zero=some (.int .u8 0))
  (hsize:i.size=1) (hby:i.bytes=1)
  (A:Option Addr) (n c:Nat) (xs:List UInt8) (hs:a.eval sl=.slice A n c) (hown:w.ownsRow base e 1 (.slice A n c) n (u8s xs)) (s:ByteArray) (hx:a.eval x=.string s)
  (h63:n+s.data.toList.length<=70368744177664) (hbase:base<=w.heap.size)
  (h:∀ A' c' w',w'.ownsRow base e 1 (.slice A' (n+s.data.toList.length) c') (n+s.data.toList.length) (u8s (xs++s.data.toList))->Below base w w'->w.grownBy w' (Value.slice A n c).ownBlock->n+s.data.toList.length<=c'->c'<=maxLen->K (a.put o.dst (.slice A' (n+s.data.toList.length) c')) w'):o.wp P a w K Q:=by
 have hlen:s.data.toList.length=s.size:=by rw [Array.length_toList];rfl
 obtain ⟨v',w',hrun,h2,h3,h4⟩:=Lib.run_append_own_string (P:=P) w base t u o.type e i ht hu hi hz hsize hby _ n _ hown s (by simp only [maxLen];omega) (by omega) hbase
 obtain ⟨A',c',rfl,h4,h5⟩:=own_shape h2
 unfold Oper.wp execOp
 simp only [ho,resolve,invoke,builtin,Sem.run_bind,Sem.run_pure,Result.andThen_ok,List.map_toArray,List.map_cons,List.map_nil,hs,hx,hrun]
 rw [<-hlen] at h2 h4 ⊢
 refine h A' c' w' ?_ ((Below.refl _ _).grown h3 hbase (fun k hk=>(hown.lt k hk).1)) h3 h4 h5
 rw [u8s_append]
 exact h2
end
end Go.Proofs.YtjpjalmilfgckaaGreatDoor
namespace Go.Proofs.YtjpjalmilfgckaaGreatDoor
open Go.RowKit
theorem u8_info:(Tryz.prog.info? 5).map (fun i=>(i.zero,i.size,i.bytes))=some (some (.int .u8 0),1,1):=by kernel_rfl
set_option maxHeartbeats 400000 in
theorem eqBytes_any (A B:Option Addr) (n c m d:Nat) (l1 l2:List UInt8) (w:World) (h1:Reads w w.heap.size 1 A n (u8s l1)) (h2:Reads w w.heap.size 1 B m (u8s l2)) :
  Calls Tryz.prog 22 #[.slice A n c,.slice B m d] w fun e w'=>e=.returned (.bool (l1==l2))/\w=w':=by
 have e1:=run_bytes_string (P:=Tryz.prog) w 35 9 5 Tryz.underlying35 Tryz.underlying5 Tryz.underlying9 _ A n c l1 h1
 have e2:=run_bytes_string (P:=Tryz.prog) w 35 9 5 Tryz.underlying35 Tryz.underlying5 Tryz.underlying9 _ B m d l2 h2
 go_enter Tryz.func22,Tryz.ntmps22
 go_wp2
 go_ret
 exact ⟨rfl,rfl⟩
theorem eq_yes (A B:Option Addr) (n c m d:Nat) (l1 l2:List UInt8) (w:World) (h1:Reads w w.heap.size 1 A n (u8s l1)) (h2:Reads w w.heap.size 1 B m (u8s l2)) (h:l1=l2) :
  Calls Tryz.prog 22 #[.slice A n c,.slice B m d] w fun e w'=>e=.returned (.bool true)/\w=w':=by
 subst h
 simpa using eqBytes_any A B n c m d l1 l1 w h1 h2
set_option maxHeartbeats 400000 in
theorem copyBytes_any (A:Option Addr) (n c:Nat) (l:List UInt8) (w:World) (hr:Reads w w.heap.size 1 A n (u8s l)) (hn:n<=35184372088832) :
  Calls Tryz.prog 15 #[.slice A n c] w fun e w'=>∃ A' c',e=.returned (.slice A' n c')/\n<=c'/\c'<=maxLen /\
   w'.ownsRow w.heap.size 5 1 (.slice A' n c') n (u8s l)/\Below w.heap.size w w':=by
 obtain ⟨i0,hi0,hz0,hz1,hz2⟩:=info_parts u8_info
 go_enter Tryz.func15,Tryz.ntmps15
 go_wp2_with (at_builtin
              refine wpList_append_any _ rfl (.tmp 4) (.tmp 5) 35 rfl w.heap.size 5 i0 (.int .u8 0) 1 1 Tryz.underlying35 hi0 hz0 hz1 hz2 rfl (by decide) none 0 0 [] rfl (World.ownsRow_nil _ _ _ _) A n c (u8s l) rfl hr (u8s_one l) (by simp only [maxLen];omega) (by omega) (Nat.le_refl _) ?_
              intro A2 c2 w2 hown2 hb2 hg2 hc2 hm2
              simp only [Nat.zero_add,List.nil_append] at hown2 hc2)
 go_ret
 exact ⟨A2,c2,by simp,hc2,hm2,hown2,hb2⟩
end Go.Proofs.YtjpjalmilfgckaaGreatDoor
set_option linter.unusedSectionVars false
namespace Go.Proofs.YtjpjalmilfgckaaGreatDoor
section
variable {α:Type} [DecidableEq α]
def placeL:List α->α->Option Nat
 | [],_=>none
 | x::r,s=>if x=s then some 0 else (placeL r s).map (· + 1)
theorem placeL_none:∀ (d:List α) (s:α),placeL d s=none ↔ s ∉ d
 | [],s=>by simp [placeL]
 | x::r,s=>by
  unfold placeL
  split
  ·rename_i h;subst h;simp
  rename_i h
  rw [Option.map_eq_none_iff,placeL_none r s,List.mem_cons,not_or]
  exact ⟨fun h2=>⟨fun e=>h e.symm,h2⟩,fun h2=>h2.2⟩
theorem placeL_some:∀ (d:List α) (s:α) (k:Nat),placeL d s=some k->d[k]? = some s
 | x::r,s,k,h=>by
  unfold placeL at h
  split at h
  ·rename_i e
   obtain rfl:=Option.some.inj h
   simp [e]
  obtain ⟨j,hj,rfl⟩:=Option.map_eq_some_iff.1 h
  simpa using placeL_some r s j hj
theorem placeL_nodup:∀ (d:List α) (s:α) (k:Nat),d.Nodup->d[k]? = some s->placeL d s=some k
 | x::r,s,0,hn,h=>by
  obtain rfl:x=s:=by simpa using h
  simp [placeL]
 | x::r,s,k+1,hn,h=>by
  have h':r[k]? = some s:=by simpa using h
  have hm:s∈r:=List.mem_of_getElem? h'
  have hx:x≠s:=fun e=>(List.nodup_cons.1 hn).1 (e ▸ hm)
  simp [placeL,hx,placeL_nodup r s k (List.nodup_cons.1 hn).2 h']
def splitStep (st:List α×List Nat) (s:α):List α×List Nat:=
 match placeL st.1 s with
 | some k=>(st.1,st.2++[k])
 | none=>(st.1++[s],st.2++[st.1.length])
def splitL (l:List α):List α×List Nat:=l.foldl splitStep ([],[])
def usedL:Nat->List Nat->Option Nat
 | u,[]=>some u
 | u,n::r=>if u<n then none else usedL (if n=u then u+1 else u) r
theorem splitL_snoc (l:List α) (s:α):splitL (l++[s])=splitStep (splitL l) s:=by simp [splitL,List.foldl_append]
theorem split_of_used (d:List α) (hd:d.Nodup):∀ (ns:List Nat) (u v:Nat) (acc:List Nat) (l:List α),u<=d.length->ns.map (d[·]?)=l.map some->usedL u ns=some v ->
  v<=d.length/\l.foldl splitStep (d.take u,acc)=(d.take v,acc++ns)
 | [],u,v,acc,l,hu,hl,h=>by
  obtain rfl:l=[]:=by simpa using hl.symm
  obtain rfl:u=v:=by simpa [usedL] using h
  exact ⟨hu,by simp⟩
 | n::r,u,v,acc,[],hu,hl,h=>by simp at hl
 | n::r,u,v,acc,s::l,hu,hl,h=>by
  simp only [List.map_cons,List.cons.injEq] at hl
  obtain ⟨h1,h2⟩:=hl
  unfold usedL at h
  split at h
  ·cases h
  rename_i hnu
  have hlt:n<d.length:=(List.getElem?_eq_some_iff.1 h1).1
  rw [List.foldl_cons]
  by_cases e:n=u
  ·subst e
   rw [if_pos rfl] at h
   have hno:placeL (d.take n) s=none:=by
    rw [placeL_none]
    intro hm
    obtain ⟨j,hj⟩:=List.getElem?_of_mem hm
    rw [List.getElem?_take] at hj
    split at hj
    ·rename_i hjn
     have a:=placeL_nodup d s j hd hj
     have b:=placeL_nodup d s n hd h1
     rw [a] at b
     have:=Option.some.inj b
     omega
    cases hj
   have hs:splitStep (d.take n,acc) s=(d.take (n+1),acc++[n]):=by
    unfold splitStep
    simp only [hno]
    rw [List.length_take,Nat.min_eq_left hu,List.take_add_one,h1]
    rfl
   rw [hs]
   obtain ⟨hv,hr⟩:=split_of_used d hd r (n+1) v (acc++[n]) l hlt h2 h
   exact ⟨hv,by rw [hr];simp⟩
  rw [if_neg e] at h
  have hyes:placeL (d.take u) s=some n:=placeL_nodup _ s n (hd.sublist (List.take_sublist _ _)) (by rw [List.getElem?_take,if_pos (by omega),h1])
  have hs:splitStep (d.take u,acc) s=(d.take u,acc++[n]):=by
   unfold splitStep
   simp only [hyes]
  rw [hs]
  obtain ⟨hv,hr⟩:=split_of_used d hd r u v (acc++[n]) l hu h2 h
  exact ⟨hv,by rw [hr];simp⟩
theorem used_of_split:∀ (l:List α) (d0:List α) (acc:List Nat),d0.Nodup ->
  ∃ (d:List α) (ns:List Nat),l.foldl splitStep (d0,acc)=(d,acc++ns)/\d0 <+: d/\d.Nodup/\usedL d0.length ns=some d.length/\ns.map (d[·]?)=l.map some
 | [],d0,acc,h=>⟨d0,[],by simp,List.prefix_refl _,h,rfl,rfl⟩
 | s::l,d0,acc,h=>by
  rw [List.foldl_cons]
  rcases hp:placeL d0 s with _ | k
  ·have hs:splitStep (d0,acc) s=(d0++[s],acc++[d0.length]):=by unfold splitStep;simp only [hp]
   have hno:=(placeL_none d0 s).1 hp
   have hnd:(d0++[s]).Nodup:=by
    rw [List.nodup_append]
    exact ⟨h,by simp,fun a ha b hb=>by rw [List.mem_singleton] at hb;subst hb;exact fun e=>hno (e ▸ ha)⟩
   obtain ⟨d,ns,e1,e2,e3,e4,e5⟩:=used_of_split l (d0++[s]) (acc++[d0.length]) hnd
   refine ⟨d,d0.length::ns,by rw [hs,e1];simp,(List.prefix_append _ _).trans e2,e3,?_,?_⟩
   ·unfold usedL
    rw [if_neg (by omega),if_pos rfl]
    simpa using e4
   rw [List.map_cons,List.map_cons,e5]
   congr 1
   obtain ⟨t,rfl⟩:=e2
   simp
  have hs:splitStep (d0,acc) s=(d0,acc++[k]):=by unfold splitStep;simp only [hp]
  have hk:=placeL_some d0 s k hp
  have hlt:k<d0.length:=(List.getElem?_eq_some_iff.1 hk).1
  obtain ⟨d,ns,e1,e2,e3,e4,e5⟩:=used_of_split l d0 (acc++[k]) h
  refine ⟨d,k::ns,by rw [hs,e1];simp,e2,e3,?_,?_⟩
  ·unfold usedL
   rw [if_neg (by omega),if_neg (by omega)]
   exact e4
  rw [List.map_cons,List.map_cons,e5]
  congr 1
  obtain ⟨t,rfl⟩:=e2
  rw [List.getElem?_append_left hlt,hk]
theorem splitL_used (l:List α):(splitL l).1.Nodup/\usedL 0 (splitL l).2=some (splitL l).1.length/\(splitL l).2.map ((splitL l).1[·]?)=l.map some:=by
 obtain ⟨d,ns,e1,e2,e3,e4,e5⟩:=used_of_split l [] [] List.nodup_nil
 unfold splitL
 rw [e1]
 exact ⟨e3,e4,e5⟩
theorem map_some_of (d:List α):∀ (ns:List Nat),(∀ n∈ns,n<d.length)->ns.map (d[·]?)=(ns.filterMap (d[·]?)).map some
 | [],_=>rfl
 | n::r,h=>by
  have hn:=List.getElem?_eq_getElem (h n (by simp))
  rw [List.map_cons,List.filterMap_cons,hn]
  simp only [List.map_cons]
  rw [map_some_of d r (fun m hm=>h m (by simp [hm]))]
end
end Go.Proofs.YtjpjalmilfgckaaGreatDoor
namespace Go.Proofs.YtjpjalmilfgckaaGreatDoor
def lebF:Nat->Nat->List UInt8
 | 0,n=>[UInt8.ofNat n]
 | f+1,n=>if n<128 then [UInt8.ofNat n] else UInt8.ofNat (n % 128+128)::lebF f (n / 128)
def leb (n:Nat):List UInt8:=lebF 9 n
theorem lebF_small (f n:Nat) (h:n<128):lebF f n=[UInt8.ofNat n]:=by
 cases f<;>simp [lebF,h]
theorem lebF_big (f n:Nat) (h:128<=n):lebF (f+1) n=UInt8.ofNat (n % 128+128)::lebF f (n / 128):=by
 simp [lebF,Nat.not_lt.2 h]
theorem lebF_le:∀ f n:Nat,(lebF f n).length<=f+1
 | 0,n=>by simp [lebF]
 | f+1,n=>by
  have:=lebF_le f (n / 128)
  unfold lebF
  split<;>simp<;>omega
theorem leb_le (n:Nat):(leb n).length<=10:=lebF_le 9 n
def getL:List UInt8->Nat->Nat->Nat×Nat×Nat
 | [],_,_=>(0,0,3)
 | c::r,i,acc=>
  if i=9/\1<c.toNat then (0,0,6)
  else if 0<i/\c.toNat=0 then (0,0,10)
  else if c.toNat<128 then (acc+c.toNat*128 ^ i,i+1,0)
  else getL r (i+1) (acc+c.toNat % 128*128 ^ i)
def get (l:List UInt8):Nat×Nat×Nat:=getL l 0 0
def zig (n:Int):Nat:=if n<0 then (2*(-(n+1))+1).toNat else (2*n).toNat
def zag (u:Nat):Int:=if u % 2=1 then -((u / 2:Nat):Int)-1 else ((u / 2:Nat):Int)
theorem ofNat_toNat (n:Nat) (h:n<256):(UInt8.ofNat n).toNat=n:=by
 simp [Nat.mod_eq_of_lt h]
theorem getL_lebF:∀ (f m i acc:Nat) (r:List UInt8),i+f=9->m<128 ^ (f+1)->(0<i->0<m)->m*128 ^ i<18446744073709551616 ->
  getL (lebF f m++r) i acc=(acc+m*128 ^ i,i+(lebF f m).length,0):=by
 intro f
 induction f with
 | zero=>
  intro m i acc r hi hm hp hb
  have hi9:i=9:=by omega
  subst hi9
  have hm2:m<2:=by
   have h128:(128:Nat) ^ 9=9223372036854775808:=by decide
   rw [h128] at hb;omega
  have hm1:m=1:=by have:=hp (by omega);omega
  subst hm1
  simp [lebF,getL]
 | succ f ih=>
  intro m i acc r hi hm hp hb
  by_cases hs:m<128
  ·rw [lebF_small _ _ hs]
   have ht:=ofNat_toNat m (by omega)
   simp only [List.cons_append,List.nil_append,getL,ht,List.length_cons,List.length_nil]
   rw [if_neg (by omega),if_neg (by intro ⟨h1,h2⟩;have:=hp h1;omega),if_pos hs]
  have hs':128<=m:=by omega
  rw [lebF_big _ _ hs']
  have ht:=ofNat_toNat (m % 128+128) (by omega)
  simp only [List.cons_append,getL,ht,List.length_cons]
  have hpow:128 ^ (i+1)=128*128 ^ i:=by rw [Nat.pow_succ,Nat.mul_comm]
  have hdm:m / 128*128 ^ (i+1)<=m*128 ^ i:=by
   rw [hpow,<-Nat.mul_assoc];exact Nat.mul_le_mul_right _ (Nat.div_mul_le_self m 128)
  rw [if_neg (by omega),if_neg (by omega),if_neg (by omega)]
  rw [ih (m / 128) (i+1) _ r (by omega) (by
   rw [Nat.pow_succ] at hm
   exact Nat.div_lt_of_lt_mul (by rw [Nat.mul_comm];exact hm)) (by omega) (Nat.lt_of_le_of_lt hdm hb)]
  have h1:(m % 128+128) % 128=m % 128:=by omega
  have h2:m*128 ^ i=m % 128*128 ^ i+m / 128*128 ^ (i+1):=by
   rw [hpow,<-Nat.mul_assoc,<-Nat.add_mul]
   congr 1
   omega
  rw [h1,h2]
  simp only [Prod.mk.injEq,and_true]
  constructor
  ·omega
  omega
theorem get_leb (n:Nat) (hn:n<18446744073709551616) (r:List UInt8):get (leb n++r)=(n,(leb n).length,0):=by
 have h:=getL_lebF 9 n 0 0 r rfl (by
  have h128:(128:Nat) ^ (9+1)=1180591620717411303424:=by decide
  rw [h128];omega) (by omega) (by simpa using hn)
 simpa [get,leb] using h
theorem getL_only:∀ (l:List UInt8) (i acc:Nat),i<=9 ->
  (∃ m,getL l i acc=(acc+m*128 ^ i,i+(lebF (9-i) m).length,0)/\(lebF (9-i) m).length<=l.length/\lebF (9-i) m=l.take (lebF (9-i) m).length/\(0<i->0<m)/\m*128 ^ i<18446744073709551616/\m<128 ^ (10-i)) \/
  ∃ e,getL l i acc=(0,0,e)/\e≠0/\e<11:=by
 intro l
 induction l with
 | nil=>intro i acc _;exact .inr ⟨3,rfl,by omega,by omega⟩
 | cons c r ih=>
  intro i acc hi
  unfold getL
  have hc:c.toNat<256:=c.toNat_lt
  by_cases h1:i=9/\1<c.toNat
  ·rw [if_pos h1];exact .inr ⟨6,rfl,by omega,by omega⟩
  rw [if_neg h1]
  by_cases h2:0<i/\c.toNat=0
  ·rw [if_pos h2];exact .inr ⟨10,rfl,by omega,by omega⟩
  rw [if_neg h2]
  have hci:UInt8.ofNat c.toNat=c:=by simp
  by_cases h3:c.toNat<128
  ·rw [if_pos h3]
   refine .inl ⟨c.toNat,?_⟩
   rw [lebF_small _ _ h3]
   have hpow:c.toNat*128 ^ i<18446744073709551616:=by
    rcases Nat.lt_or_ge i 9 with hlt | hge
    ·have h8:128 ^ i<=128 ^ 8:=Nat.pow_le_pow_right (by omega) (by omega)
     have h128:(128:Nat) ^ 8=72057594037927936:=by decide
     have:=Nat.mul_le_mul (Nat.le_of_lt_succ h3:c.toNat<=127) h8
     rw [h128] at this
     omega
    have hi9:i=9:=by omega
    subst hi9
    have h128:(128:Nat) ^ 9=9223372036854775808:=by decide
    rw [h128]
    omega
   refine ⟨rfl,by simp,by simp [hci],by omega,hpow,?_⟩
   calc c.toNat<128 ^ 1:=by simpa using h3
    _<=128 ^ (10-i):=Nat.pow_le_pow_right (by omega) (by omega)
  rw [if_neg h3]
  have hi8:i<=8:=by omega
  rcases ih (i+1) (acc+c.toNat % 128*128 ^ i) (by omega) with ⟨m,hg,hl,htk,hpos,hlt,hlt2⟩ | h
  ·refine .inl ⟨c.toNat % 128+128*m,?_⟩
   have hm:=hpos (by omega)
   have e1:9-i=(9-(i+1))+1:=by omega
   have hm0:(c.toNat % 128+128*m) % 128=c.toNat % 128:=by omega
   have hm1:(c.toNat % 128+128*m) / 128=m:=by omega
   have hbig:=lebF_big (9-(i+1)) (c.toNat % 128+128*m) (by omega)
   rw [hm0,hm1] at hbig
   have hc2:UInt8.ofNat (c.toNat % 128+128)=c:=by
    have:c.toNat % 128+128=c.toNat:=by omega
    rw [this,hci]
   rw [hc2] at hbig
   rw [e1,hbig,hg]
   have hpow:128 ^ (i+1)=128*128 ^ i:=by rw [Nat.pow_succ,Nat.mul_comm]
   have e2:(c.toNat % 128+128*m)*128 ^ i=c.toNat % 128*128 ^ i+m*128 ^ (i+1):=by
    rw [hpow,Nat.add_mul,<-Nat.mul_assoc,Nat.mul_comm m 128]
   have e10:10-i=(10-(i+1))+1:=by omega
   refine ⟨?_,by simpa using hl,by rw [List.length_cons,List.take_succ_cons,<-htk],fun _=>by omega,?_,?_⟩
   ·rw [e2]
    simp only [Prod.mk.injEq,List.length_cons,and_true]
    constructor<;>omega
   ·                                                                
    have hdig:c.toNat % 128*128 ^ i<128 ^ (i+1):=by
     rw [hpow];exact Nat.mul_lt_mul_of_lt_of_le (by omega) (Nat.le_refl _) (Nat.pow_pos (by omega))
    rw [e2]
    have hdvd:18446744073709551616=(18446744073709551616 / 128 ^ (i+1))*128 ^ (i+1):=by
     have:i=0\/i=1\/i=2\/i=3\/i=4\/i=5\/i=6\/i=7\/i=8:=by omega
     rcases this with rfl | rfl | rfl | rfl | rfl | rfl | rfl | rfl | rfl<;>decide
    generalize 18446744073709551616 / 128 ^ (i+1)=q at hdvd
    rw [hdvd] at hlt ⊢
    have hmq:m<q:=Nat.lt_of_mul_lt_mul_right hlt
    have:(m+1)*128 ^ (i+1)<=q*128 ^ (i+1):=Nat.mul_le_mul_right _ hmq
    rw [Nat.add_mul,Nat.one_mul] at this
    omega
   rw [e10,Nat.pow_succ]
   have:10-(i+1)=9-i:=by omega
   omega
  exact .inr h
theorem get_only (l:List UInt8):(∃ n,get l=(n,(leb n).length,0)/\n<18446744073709551616/\(leb n).length<=l.length/\leb n=l.take (leb n).length)\/∃ e,get l=(0,0,e)/\e≠0/\e<11:=by
 rcases getL_only l 0 0 (by omega) with ⟨m,h1,h2,h3,_,h5,_⟩ | h
 ·refine .inl ⟨m,?_⟩
  simp only [Nat.pow_zero,Nat.mul_one,Nat.zero_add,Nat.sub_zero] at h1 h2 h3 h5
  exact ⟨h1,h5,h2,h3⟩
 exact .inr h
theorem zig_lt (n:Int) (h1 : -9223372036854775808<=n) (h2:n<=9223372036854775807):zig n<18446744073709551616:=by
 unfold zig;split<;>omega
theorem zag_zig (n:Int):zag (zig n)=n:=by
 unfold zag zig;split<;>split<;>omega
theorem zig_zag (u:Nat):zig (zag u)=u:=by
 unfold zag zig;split<;>split<;>omega
theorem zag_bounds (u:Nat) (h:u<18446744073709551616) : -9223372036854775808<=zag u/\zag u<=9223372036854775807:=by
 unfold zag;split<;>omega
end Go.Proofs.YtjpjalmilfgckaaGreatDoor
namespace Go.Proofs.YtjpjalmilfgckaaGreatDoor
instance textEq:DecidableEq ByteArray:=fun a b=>decidable_of_iff (a.data=b.data) ⟨fun h=>by cases a;cases b;simp_all,fun h=>by rw [h]⟩
def bts (s:ByteArray):List UInt8:=s.data.toList
def txt (l:List UInt8):ByteArray:=⟨l.toArray⟩
@[simp] theorem bts_txt (l:List UInt8):bts (txt l)=l:=rfl
@[simp] theorem txt_bts (s:ByteArray):txt (bts s)=s:=rfl
def putText (s:ByteArray):List UInt8:=leb (bts s).length++bts s
def putD (l:List ByteArray):List UInt8:=leb (splitL l).1.length++(splitL l).1.flatMap putText++(splitL l).2.flatMap leb
def takeTexts (most:Int):Nat->List UInt8->List ByteArray->Except Nat (List ByteArray×List UInt8)
 | 0,b,d=>.ok (d,b)
 | k+1,b,d=>
  if (get b).2.2≠0 then .error (get b).2.2
  else if most<0\/most<((get b).1:Int) then .error 5
  else if (b.drop (get b).2.1).length<(get b).1 then .error 3
  else if (placeL d (txt ((b.drop (get b).2.1).take (get b).1))).isSome then .error 150
  else takeTexts most k ((b.drop (get b).2.1).drop (get b).1) (d++[txt ((b.drop (get b).2.1).take (get b).1)])
def takeNums (m:Nat):Nat->List UInt8->Nat->List Nat->Except Nat (Nat×List Nat×List UInt8)
 | 0,b,u,out=>.ok (u,out,b)
 | k+1,b,u,out=>
  if (get b).2.2≠0 then .error (get b).2.2
  else if m<=(get b).1\/u<(get b).1 then .error 150
  else takeNums m k (b.drop (get b).2.1) (if (get b).1=u then u+1 else u) (out++[(get b).1])
theorem takeTexts_put (most:Int):∀ (t:List ByteArray) (d:List ByteArray) (r:List UInt8),(d++t).Nodup->(∀ s∈t,((bts s).length:Int)<=most)->(∀ s∈t,(bts s).length<18446744073709551616) ->
  takeTexts most t.length (t.flatMap putText++r) d=.ok (d++t,r)
 | [],d,r,_,_,_=>by simp [takeTexts]
 | s::t,d,r,hn,hm,hs=>by
  have hg:get (putText s++(t.flatMap putText++r))=((bts s).length,(leb (bts s).length).length,0):=by
   unfold putText
   rw [List.append_assoc]
   exact get_leb _ (hs s (by simp)) _
  have hdrop:(putText s++(t.flatMap putText++r)).drop (leb (bts s).length).length=bts s++(t.flatMap putText++r):=by
   unfold putText
   rw [List.append_assoc,List.drop_left]
  rw [List.length_cons,List.flatMap_cons,List.append_assoc,takeTexts,hg]
  simp only [hdrop]
  have h1:=hm s (by simp)
  have hnot:s ∉ d:=by
   intro h
   exact (List.nodup_append.1 hn).2.2 s h s (by simp) rfl
  rw [if_neg (by simp),if_neg (by omega),if_neg (by simp),List.take_left,List.drop_left,txt_bts,(placeL_none d s).2 hnot,if_neg (by simp)]
  rw [takeTexts_put most t (d++[s]) r (by simpa using hn) (fun x hx=>hm x (by simp [hx])) (fun x hx=>hs x (by simp [hx]))]
  simp
theorem takeNums_put (m:Nat):∀ (ns:List Nat) (u v:Nat) (out:List Nat) (r:List UInt8),(∀ n∈ns,n<m)->m<18446744073709551616->usedL u ns=some v ->
  takeNums m ns.length (ns.flatMap leb++r) u out=.ok (v,out++ns,r)
 | [],u,v,out,r,_,_,h=>by
  obtain rfl:u=v:=by simpa [usedL] using h
  simp [takeNums]
 | n::ns,u,v,out,r,hm,hb,h=>by
  have hn:=hm n (by simp)
  rw [usedL] at h
  split at h
  ·cases h
  rename_i hnu
  rw [List.length_cons,List.flatMap_cons,List.append_assoc,takeNums,get_leb n (by omega)]
  simp only [List.drop_left]
  rw [if_neg (by simp),if_neg (by omega),takeNums_put m ns _ v _ r (fun x hx=>hm x (by simp [hx])) hb h]
  simp
theorem get_take (b:List UInt8) (h:(get b).2.2=0):b=leb (get b).1++b.drop (get b).2.1:=by
 rcases get_only b with ⟨n,e,-,-,h4⟩ | ⟨e,h1,h2,-⟩
 ·rw [e]
  simp only
  exact (List.take_append_drop (leb n).length b).symm.trans (by rw [<-h4])
 rw [h1] at h
 exact absurd h h2
theorem takeTexts_only (most:Int):∀ (k:Nat) (b:List UInt8) (d d':List ByteArray) (r:List UInt8),takeTexts most k b d=.ok (d',r) ->
  ∃ t,d'=d++t/\t.length=k/\b=t.flatMap putText++r/\(d.Nodup->d'.Nodup)
 | 0,b,d,d',r,h=>by
  simp only [takeTexts,Except.ok.injEq,Prod.mk.injEq] at h
  exact ⟨[],by simp [h.1],rfl,by simp [h.2],fun hn=>h.1 ▸ hn⟩
 | k+1,b,d,d',r,h=>by
  rw [takeTexts] at h
  split at h
  ·cases h
  rename_i h0
  split at h
  ·cases h
  split at h
  ·cases h
  rename_i hlen
  split at h
  ·cases h
  rename_i hp
  have hb:=get_take b (by simpa using h0)
  obtain ⟨t,e1,e2,e3,e4⟩:=takeTexts_only most k _ _ d' r h
  generalize b.drop (get b).2.1=c at hb hlen hp e1 e3 e4
  generalize (get b).1=n at hb hlen hp e1 e3 e4
  have hn:(bts (txt (c.take n))).length=n:=by rw [bts_txt,List.length_take];omega
  refine ⟨txt (c.take n)::t,by rw [e1];simp,by simp [e2],?_,fun hnd=>e4 ?_⟩
  ·rw [List.flatMap_cons,putText,hn,bts_txt,List.append_assoc,List.append_assoc,<-e3,List.take_append_drop]
   exact hb
  have hno:=(placeL_none d _).1 (by simpa using hp)
  rw [List.nodup_append]
  exact ⟨hnd,by simp,fun a ha x hx=>by rw [List.mem_singleton] at hx;subst hx;exact fun e=>hno (e ▸ ha)⟩
theorem takeNums_only (m:Nat):∀ (k:Nat) (b:List UInt8) (u v:Nat) (out out':List Nat) (r:List UInt8),takeNums m k b u out=.ok (v,out',r) ->
  ∃ ns,out'=out++ns/\ns.length=k/\b=ns.flatMap leb++r/\usedL u ns=some v/\∀ n∈ns,n<m
 | 0,b,u,v,out,out',r,h=>by
  simp only [takeNums,Except.ok.injEq,Prod.mk.injEq] at h
  exact ⟨[],by simp [h.2.1],rfl,by simp [h.2.2],by rw [usedL,h.1],by simp⟩
 | k+1,b,u,v,out,out',r,h=>by
  rw [takeNums] at h
  split at h
  ·cases h
  rename_i h0
  split at h
  ·cases h
  rename_i hc
  have hb:=get_take b (by simpa using h0)
  obtain ⟨ns,e1,e2,e3,e4,e5⟩:=takeNums_only m k _ _ v _ out' r h
  generalize b.drop (get b).2.1=c at hb e3
  generalize (get b).1=n at hb hc e1 e4
  refine ⟨n::ns,by rw [e1];simp,by simp [e2],by rw [List.flatMap_cons,List.append_assoc,<-e3];exact hb,?_,?_⟩
  ·rw [usedL,if_neg (by omega)]
   exact e4
  intro x hx
  rcases List.mem_cons.1 hx with rfl | hx
  ·omega
  exact e5 x hx
end Go.Proofs.YtjpjalmilfgckaaGreatDoor
namespace Go.Proofs.YtjpjalmilfgckaaGreatDoor
open Go.RowKit
theorem text_eqb2 (a b:ByteArray):(a.toList==b.toList)=decide (a=b):=by
 by_cases h:a=b
 ·rw [h,decide_eq_true rfl];simp
 rw [decide_eq_false h,Lib.bytes_beq_false_iff];exact h
end Go.Proofs.YtjpjalmilfgckaaGreatDoor
namespace Go.Proofs
open Go.Shelf
def Tryz.laysValid_ren:Go.Shelf.Ren:=⟨fun | 196=>248 | 259=>274 | n=>n,fun | 9=>9 | 4=>4 | 3=>3 | 5=>5 | 12=>12 | 119=>315 | 0=>0 | 46=>86 | 139=>318 | 138=>317 | 53=>79 | n=>n,fun | 3=>2 | 4=>3 | n=>n⟩
theorem Tryz.laysValid:Go.Proofs.Lays.n196 Tryz.prog Tryz.laysValid_ren:={
 mixed:=by kernel_rfl
 f196:=Tryz.func248.trans (congrArg some (by kernel_rfl))
 f259:=Tryz.func274.trans (congrArg some (by kernel_rfl))
 t0:=Tryz.underlying0
 a0:=Tryz.isAgg0
 z0:=Tryz.sizeOf0
 v0:=Tryz.zeroValue0
 t3:=Tryz.underlying3
 a3:=Tryz.isAgg3
 z3:=Tryz.sizeOf3
 v3:=Tryz.zeroValue3
 t4:=Tryz.underlying4
 a4:=Tryz.isAgg4
 z4:=Tryz.sizeOf4
 v4:=Tryz.zeroValue4
 t5:=Tryz.underlying5
 a5:=Tryz.isAgg5
 z5:=Tryz.sizeOf5
 v5:=Tryz.zeroValue5
 t9:=Tryz.underlying9
 a9:=Tryz.isAgg9
 z9:=Tryz.sizeOf9
 v9:=Tryz.zeroValue9
 t12:=Tryz.underlying12
 a12:=Tryz.isAgg12
 z12:=Tryz.sizeOf12
 v12:=Tryz.zeroValue12
 t46:=Tryz.underlying86
 a46:=Tryz.isAgg86
 z46:=Tryz.sizeOf86
 v46:=Tryz.zeroValue86
 t53:=Tryz.underlying79
 a53:=Tryz.isAgg79
 z53:=Tryz.sizeOf79
 v53:=Tryz.zeroValue79
 t119:=Tryz.underlying315
 a119:=Tryz.isAgg315
 z119:=Tryz.sizeOf315
 t138:=Tryz.underlying317
 a138:=Tryz.isAgg317
 z138:=Tryz.sizeOf317
 v138:=Tryz.zeroValue317
 t139:=Tryz.underlying318
 a139:=Tryz.isAgg318
 z139:=Tryz.sizeOf318
 v139:=Tryz.zeroValue318
 g3:=by kernel_rfl
 g4:=by kernel_rfl }
end Go.Proofs
namespace Go.Proofs.YtjpjalmilfgckaaGreatDoor
open Go.RowKit
def Tabs (w:World):Prop:=Lib.Utf8Tabs 2 3 w
theorem Tabs.on {w w':World} (h:Tabs w) (hb:Below w.heap.size w w'):Tabs w':=Utf8Tabs_below h hb
theorem pvalid_any (s:ByteArray) (w:World) (hs:s.size<=9223372036854775807) (hT:Tabs w) :
  Calls Tryz.prog 212 #[.string s] w fun e w'=>e=.returned (.bool (Lib.validD s.data.toList))/\Below w.heap.size w w':=by
 have cV:Calls Tryz.prog 248 #[.string s] w _:=Any.utf8_ValidString Tryz.laysValid s w hs hT
 have CV:=Lib.hid cV
 clear cV hT
 go_enter Tryz.func212,Tryz.ntmps212
 go_wp2_with fail
 with_reducible refine (CV.out).mono ?_
 rintro e w' ⟨rfl,hb⟩
 go_wp2
 go_ret
 exact ⟨rfl,hb⟩
end Go.Proofs.YtjpjalmilfgckaaGreatDoor
