/- Part 6 of the walks. Conditions: each lemma states its own. -/
import Derived.Test.YtjpjalmilfgckaaGreatDoorZz5
import Derived.Deep.Fields
import Derived.WalkMore
set_option maxRecDepth 100000
set_option maxHeartbeats 1000000
set_option linter.unusedVariables false
set_option linter.unusedSimpArgs false
namespace Go.Proofs.YtjpjalmilfgckaaGreatDoor
section
open Go.RowKit
abbrev Co:=Int×ByteArray×Int×Bool×Cl
abbrev It:=List Cl×Int
abbrev Ba:=Int×Int×List It
def yD (cs:List Co):Bool:=decide (1<=cs.length/\cs.length<=32)&&cs.all fun c=>yZ c.2.2.1
def yA:List Co->List Cl->Int
 | c::cs,x::r=>if zw c.2.2.1 c.2.2.2.1 x=0 then yA cs r else zw c.2.2.1 c.2.2.2.1 x
 | _,_=>0
def qm (cs:List Co) (r:List Cl):Int:=if r.length=cs.length then yA cs r else 100
def yz (cs:List Co):List It->Int
 | []=>0
 | it::l=>if qm cs it.1=0 then (if it.2=0 then 172 else yz cs l) else qm cs it.1
def baB (cs:List Co) (b:Ba):Bool:=yD cs&&decide (0<=b.1/\b.1<=2147483647/\0<=b.2.1)
def yT (cs:List Co) (b:Ba):Int:=if baB cs b then (if 1048576<b.2.2.length then 5 else yz cs b.2.2) else 2
def Jm (b:Ba):Prop:=b.2.1<=9223372036854775807/\∀ it∈b.2.2,-9223372036854775808<=it.2/\it.2<=9223372036854775807
def Zk (l:List It) (k:Nat):List Cl:=l.map fun it=>(it.1[k]?).getD Zh
def VL (v s:Int) (n:Nat):List UInt8:=[77,83,1]++(leb v.toNat++(leb s.toNat++leb n))
def ada (cs:List Co) (l:List It) (k:Nat):List UInt8:=match cs[k]? with | some c=>YO c.2.2.1 c.2.2.2.1 (Zk l k) [] | none=>[]
def Yq (cs:List Co) (l:List It) (j:Nat):List UInt8:=(List.range j).flatMap (ada cs l)
def wsB (l:List It):List UInt8:=l.flatMap fun it=>leb (zig it.2)
def yf (cs:List Co) (b:Ba):List UInt8:=VL b.1 b.2.1 b.2.2.length++(Yq cs b.2.2 cs.length++wsB b.2.2)
def yN (cs:List Co) (b:Ba):List UInt8:=yf cs b++yj (zZ (yf cs b))
theorem aav (cs:List Co) (l:List It) (j:Nat):Yq cs l (j+1)=Yq cs l j++ada cs l j:=by simp [Yq,List.range_succ]
theorem ab6 (s:Nat):(yj s).length=4:=rfl
theorem Ut (cs:List Co) (b:Ba):(yN cs b).length=(yf cs b).length+4:=by simp [yN,ab6]
abbrev Got (α:Type):=Except Nat α
def Zl {α β:Type} (g:Got α) (f:α->Got β):Got β:=match g with | .ok a=>f a | .error e=>.error e
@[simp] theorem zX {α β:Type} (a:α) (f:α->Got β):Zl (.ok a) f=f a:=rfl
@[simp] theorem akh {α β:Type} (e:Nat) (f:α->Got β):Zl (.error e) f=.error e:=rfl
theorem qo {α β:Type} {g:Got α} {f:α->Got β} {b:β} (h:Zl g f=.ok b):∃ a,g=.ok a/\f a=.ok b:=by
 cases g with
 | error e=>cases h
 | ok a=>exact ⟨a,rfl,h⟩
def Ys (most beyond:Nat) (xs:List UInt8):Got (Nat×List UInt8):=
 if (get xs).2.2=0 then (if (get xs).1<=most then .ok ((get xs).1,xs.drop (get xs).2.1) else .error beyond) else .error (get xs).2.2
def abS (xs:List UInt8):Got (Nat×Nat×Nat×List UInt8):=
 Zl (Ys 2147483647 6 xs) fun p=>Zl (Ys 9223372036854775807 6 p.2) fun q=>Zl (Ys 1048576 5 q.2) fun r=>.ok (p.1,q.1,r.1,r.2)
def ZW (xs:List UInt8):Got (Nat×Nat×Nat×List UInt8):=
 if xs.length<4 then .error 3
 else if yj (zZ (xs.take (xs.length-4)))=xs.drop (xs.length-4) then
  (if (xs.take (xs.length-4)).take 3=[77,83,1] then abS ((xs.take (xs.length-4)).drop 3) else .error 171)
 else .error 170
def qr {σ:Type} (f:Nat->σ->Got σ):Nat->σ->Got σ
 | 0,s=>.ok s
 | n+1,s=>Zl (qr f n s) (f n)
abbrev aiF:=List (List Cl)×List UInt8
def UX (cs:List Co) (n:Int) (k:Nat) (s:aiF):Got aiF:=
 match cs[k]? with
 | some c=>Zl (Y9 c.2.2.1 c.2.2.2.1 s.2 n) fun p=>.ok (s.1++[p.1],s.2.drop p.2)
 | none=>.ok s
abbrev akd:=List Int×List UInt8
def UE (_:Nat) (s:akd):Got akd:=
 if (get s.2).2.2=0 then (if zag (get s.2).1=0 then .error 172 else .ok (s.1++[zag (get s.2).1],s.2.drop (get s.2).2.1)) else .error (get s.2).2.2
def yF (t:List (List Cl)) (ws:List Int):List It:=(List.range ws.length).map fun i=>(t.map fun l=>(l[i]?).getD Zh,(ws[i]?).getD 0)
def Ub (cs:List Co) (n:Nat) (xs:List UInt8):Got (List It×List UInt8):=
 Zl (qr (UX cs (n:Int)) cs.length ([],xs)) fun t=>Zl (qr UE n ([],t.2)) fun w=>.ok (yF t.1 w.1,w.2)
def qj (cs:List Co) (xs:List UInt8):Got Ba:=
 if yD cs then Zl (ZW xs) fun h=>Zl (Ub cs h.2.2.1 h.2.2.2) fun r=>if r.2=[] then .ok ((h.1:Int),(h.2.1:Int),r.1) else .error 30
 else .error 2
theorem Vd:∀ (cs:List Co) (r:List Cl),yA cs r=0 ↔ ∀ (k:Nat) c x,cs[k]? = some c->r[k]? = some x->zw c.2.2.1 c.2.2.2.1 x=0
 | [],r=>by simp [yA]
 | c::cs,[]=>by simp [yA]
 | c::cs,x::r=>by
  have ih:=Vd cs r;unfold yA;constructor
  ·intro h k d y hd hy
   split at h
   ·cases k with
    | zero=>
     simp only [List.getElem?_cons_zero,Option.some.injEq] at hd hy;subst hd hy
     assumption
    | succ k=>exact ih.1 h k d y (by simpa using hd) (by simpa using hy)
   contradiction
  intro h;have h0:=h 0 c x rfl rfl;rw [if_pos h0];exact ih.2 fun k d y hd hy=>h (k+1) d y (by simpa using hd) (by simpa using hy)
theorem X5 (cs:List Co):∀ l:List It,yz cs l=0 ↔ ∀ it∈l,qm cs it.1=0/\it.2≠0
 | []=>by simp [yz]
 | it::l=>by
  have ih:=X5 cs l;unfold yz;by_cases h1:qm cs it.1=0
  ·by_cases h2:it.2=0
   ·simp [h1,h2]
   simp [h1,h2,ih]
  simp [h1]
structure Fits (cs:List Co) (b:Ba):Prop where
 may:yD cs=true
 v0:0<=b.1
 v1:b.1<=2147483647
 s0:0<=b.2.1
 rows:b.2.2.length<=1048576
 items:∀ it∈b.2.2,qm cs it.1=0/\it.2≠0
theorem Us (cs:List Co) (b:Ba):yT cs b=0 ↔ Fits cs b:=by
 unfold yT baB;constructor
 ·intro h
  split at h
  ·rename_i h1
   simp only [Bool.and_eq_true,decide_eq_true_eq] at h1
   split at h
   ·cases h
   exact ⟨h1.1,h1.2.1,h1.2.2.1,h1.2.2.2,by omega,(X5 cs _).1 h⟩
  cases h
 intro h;have h1:=h.may;have h2:=h.v0;have h3:=h.v1;have h4:=h.s0;have h5:=h.rows;rw [if_pos (by simp [h1];omega),if_neg (by omega)];exact (X5 cs _).2 h.items
theorem X3 {cs:List Co} {k:Nat} {c:Co} (h:yD cs=true) (hc:cs[k]? = some c):yZ c.2.2.1=true:=by
 unfold yD at h;simp only [Bool.and_eq_true] at h;exact List.all_eq_true.1 h.2 c (List.mem_of_getElem? hc)
theorem Vj {cs:List Co} {r:List Cl} (h:qm cs r=0):r.length=cs.length/\∀ (k:Nat) c x,cs[k]? = some c->r[k]? = some x->zw c.2.2.1 c.2.2.2.1 x=0:=by
 unfold qm at h
 split at h
 ·exact ⟨by assumption,(Vd cs r).1 h⟩
 cases h
theorem Fits.col {cs:List Co} {b:Ba} (h:Fits cs b) {k:Nat} {c:Co} (hc:cs[k]? = some c):Yr c.2.2.1 c.2.2.2.1 (Zk b.2.2 k)=true:=by
 unfold Yr Zk;rw [List.all_eq_true];intro x hx;obtain ⟨it,hit,rfl⟩:=List.mem_map.1 hx;obtain ⟨hl,hck⟩:=Vj (h.items it hit).1;have hk:k<it.1.length:=by rw [hl];exact (List.getElem?_eq_some_iff.1 hc).1
 have hx:=List.getElem?_eq_getElem hk;rw [hx,Option.getD_some,hck k c _ hc hx];rfl
theorem J1 (most beyond n:Nat) (hn:n<=most) (hm:most<18446744073709551616) (r:List UInt8):Ys most beyond (leb n++r)=.ok (n,r):=by
 unfold Ys;rw [Zj n (by omega) r];simp [hn]
theorem Vo {most beyond:Nat} {xs:List UInt8} {p:Nat×List UInt8} (h:Ys most beyond xs=.ok p):p.1<=most/\xs=leb p.1++p.2:=by
 unfold Ys at h;rcases qt xs with ⟨n,hg,-,hl,ht⟩ | ⟨e,hg,he,-⟩
 ·rw [hg] at h;simp only [if_true] at h
  split at h
  ·cases h;refine ⟨by assumption,?_⟩;show xs=leb n++xs.drop (leb n).length
   conv=>lhs;rw [<-List.take_append_drop (leb n).length xs,<-ht]
  cases h
 rw [hg] at h;simp [he] at h
theorem aiz (v s n:Nat) (hv:v<=2147483647) (hs:s<=9223372036854775807) (hn:n<=1048576) (r:List UInt8):abS (leb v++(leb s++(leb n++r)))=.ok (v,s,n,r):=by
 unfold abS;rw [J1 _ _ v hv (by decide),zX,J1 _ _ s hs (by decide),zX,J1 _ _ n hn (by decide),zX]
theorem agG {xs:List UInt8} {h:Nat×Nat×Nat×List UInt8} (hh:abS xs=.ok h):h.1<=2147483647/\h.2.1<=9223372036854775807/\h.2.2.1<=1048576/\xs=leb h.1++(leb h.2.1++(leb h.2.2.1++h.2.2.2)):=by
 unfold abS at hh;obtain ⟨p,hp,hh⟩:=qo hh;obtain ⟨q,hq,hh⟩:=qo hh;obtain ⟨r,hr,hh⟩:=qo hh;cases hh;obtain ⟨a1,a2⟩:=Vo hp;obtain ⟨b1,b2⟩:=Vo hq;obtain ⟨c1,c2⟩:=Vo hr;exact ⟨a1,b1,c1,by rw [a2,b2,c2]⟩
theorem aaj {α:Type} (f:Nat->List α×List UInt8->Got (List α×List UInt8)) (n:Nat) (a:Nat->α) (e:Nat->List UInt8)
  (h:∀ j,j<n->∀ t r,f j (t,e j++r)=.ok (t++[a j],r)):∀ j,j<=n->∀ r,qr f j ([],(List.range j).flatMap e++r)=.ok ((List.range j).map a,r):=by
 intro j
 induction j with
 | zero=>intro _ r;rfl
 | succ j ih=>
  intro hj r;rw [qr,List.range_succ,List.flatMap_append,List.append_assoc,ih (by omega),zX];simp only [List.flatMap_cons,List.flatMap_nil,List.append_nil];rw [h j (by omega)];simp
theorem aai {α:Type} (f:Nat->List α×List UInt8->Got (List α×List UInt8)) (n:Nat) (P:Nat->α->List UInt8->Prop)
  (h:∀ j,j<n->∀ t xs s,f j (t,xs)=.ok s->∃ a e,s.1=t++[a]/\xs=e++s.2/\P j a e) (xs:List UInt8) :
  ∀ j,j<=n->∀ s,qr f j ([],xs)=.ok s->∃ es:List (List UInt8),s.1.length=j/\es.length=j/\xs=es.flatten++s.2/\∀ (i:Nat) a e,s.1[i]? = some a->es[i]? = some e->P i a e:=by
 intro j
 induction j with
 | zero=>
  intro _ s hs;cases hs;exact ⟨[],rfl,rfl,rfl,fun i a e ha=>by simp at ha⟩
 | succ j ih=>
  intro hj s hs;rw [qr] at hs;obtain ⟨m,hm,hs⟩:=qo hs;obtain ⟨es,h1,h2,h3,h4⟩:=ih (by omega) m hm;obtain ⟨a,e,g1,g2,g3⟩:=h j (by omega) m.1 m.2 s hs;refine ⟨es++[e],by rw [g1,List.length_append,h1];rfl,by rw [List.length_append,h2];rfl,by rw [h3,g2];simp,?_⟩;intro i b d hb hd;rw [g1] at hb;by_cases hi:i<j
  ·rw [List.getElem?_append_left (by omega)] at hb hd;exact h4 i b d hb hd
  have hij:i=j:=by
   have:=(List.getElem?_eq_some_iff.1 hd).1;simp only [List.length_append,List.length_cons,List.length_nil] at this;omega
  subst hij;rw [List.getElem?_append_right (by omega),h1,Nat.sub_self] at hb;rw [List.getElem?_append_right (by omega),h2,Nat.sub_self] at hd;simp only [List.getElem?_cons_zero,Option.some.injEq] at hb hd;subst hb hd;exact g3
theorem Fits.cols_back {cs:List Co} {b:Ba} (h:Fits cs b) (r:List UInt8):qr (UX cs (b.2.2.length:Int)) cs.length ([],Yq cs b.2.2 cs.length++r)=.ok ((List.range cs.length).map (Zk b.2.2),r):=by
 refine aaj _ cs.length _ (ada cs b.2.2) (fun j hj t r=>?_) cs.length (Nat.le_refl _) r;have hc:=List.getElem?_eq_getElem hj;unfold UX ada;rw [hc];have hg:=ah1 cs[j].2.2.1 cs[j].2.2.2.1 (Zk b.2.2 j) (X3 h.may hc) (h.col hc) (by rw [Zk,List.length_map];exact h.rows) r;rw [Zk,List.length_map] at hg;simp only [Zk];rw [hg,zX];simp
theorem afm (l:List It) (hw:∀ it∈l,it.2≠0 /\ -9223372036854775808<=it.2/\it.2<=9223372036854775807) (r:List UInt8):qr UE l.length ([],wsB l++r)=.ok (l.map (·.2),r):=by
 have key:=aaj UE l.length (fun j=>((l[j]?).map (·.2)).getD 0) (fun j=>leb (zig (((l[j]?).map (·.2)).getD 0))) (fun j hj t r=>by
  have hx:=List.getElem?_eq_getElem hj;have hm:=hw l[j] (List.getElem_mem hj);rw [hx];simp only [Option.map_some,Option.getD_some];unfold UE;simp only;rw [Zj _ (Jw _ hm.2.1 hm.2.2),aeT];simp [hm.1]) l.length (Nat.le_refl _) r
 have h1:(List.range l.length).flatMap (fun j=>leb (zig (((l[j]?).map (·.2)).getD 0)))=wsB l:=by
  unfold wsB;rw [List.flatMap_def,List.flatMap_def]
  congr 1
  refine List.ext_getElem (by simp) fun i h1 h2=>?_;simp only [List.length_map,List.length_range] at h1;simp [List.getElem?_eq_getElem h1]
 have h2:(List.range l.length).map (fun j=>((l[j]?).map (·.2)).getD 0)=l.map (·.2):=by
  refine List.ext_getElem (by simp) fun i h1 h2=>?_;simp only [List.length_map,List.length_range] at h1;simp [List.getElem?_eq_getElem h1]
 rw [h1,h2] at key;exact key
theorem Fits.items_back {cs:List Co} {b:Ba} (h:Fits cs b):yF ((List.range cs.length).map (Zk b.2.2)) (b.2.2.map (·.2))=b.2.2:=by
 unfold yF;refine List.ext_getElem (by simp) fun i h1 h2=>?_;have hm:=(h.items b.2.2[i] (List.getElem_mem h2)).1;obtain ⟨hl,-⟩:=Vj hm;rw [List.getElem_map,List.getElem_range];refine Prod.ext ?_ ?_
 ·simp only [List.map_map];refine List.ext_getElem (by simp [hl]) fun k g1 g2=>?_;simp only [List.length_map,List.length_range] at g1;simp [Zk,List.getElem?_eq_getElem h2,List.getElem?_eq_getElem g2]
 simp [List.getElem?_eq_getElem h2]
theorem Fits.rest_back {cs:List Co} {b:Ba} (h:Fits cs b) (hb:Jm b) (r:List UInt8):Ub cs b.2.2.length (Yq cs b.2.2 cs.length++(wsB b.2.2++r))=.ok (b.2.2,r):=by
 unfold Ub;rw [h.cols_back,zX,afm _ (fun it hit=>⟨(h.items it hit).2,hb.2 it hit⟩),zX,h.items_back]
theorem Fits.stream {cs:List Co} {b:Ba} (h:Fits cs b) (hb:Jm b) (r:List UInt8) :
  Zl (abS ((yf cs b++r).drop 3)) (fun g=>Zl (Ub cs g.2.2.1 g.2.2.2) fun q=>.ok ((g.1:Int),(g.2.1:Int),q))=.ok (b.1,b.2.1,b.2.2,r):=by
 have h0:=h.v0;have h1:=h.v1;have h2:=h.s0;have h3:=hb.1;have e:(yf cs b++r).drop 3=leb b.1.toNat++(leb b.2.1.toNat++(leb b.2.2.length++(Yq cs b.2.2 cs.length++(wsB b.2.2++r)))):=by
  simp [yf,VL]
 rw [e,aiz _ _ _ (by omega) (by omega) h.rows,zX];simp only;rw [h.rest_back hb,zX];simp only [Except.ok.injEq,Prod.mk.injEq,and_true];omega
theorem aeK (cs:List Co) (b:Ba) (r:List UInt8):(yf cs b++r).take 3=[77,83,1]:=by simp [yf,VL]
theorem Fits.back {cs:List Co} {b:Ba} (h:Fits cs b) (hb:Jm b):qj cs (yN cs b)=.ok b:=by
 have hl:(yN cs b).length-4=(yf cs b).length:=by rw [Ut];omega
 have ht:(yN cs b).take ((yN cs b).length-4)=yf cs b:=by rw [hl];unfold yN;exact List.take_left
 have hd:(yN cs b).drop ((yN cs b).length-4)=yj (zZ (yf cs b)):=by rw [hl];unfold yN;exact List.drop_left
 have h3:=aeK cs b [];rw [List.append_nil] at h3;have hs:=h.stream hb [];rw [List.append_nil] at hs;unfold qj ZW;rw [if_pos h.may,if_neg (by rw [Ut];omega),ht,hd,if_pos rfl,if_pos h3];obtain ⟨g,hg,hs⟩:=qo hs;obtain ⟨q,hq,hs⟩:=qo hs;rw [hg,zX,hq,zX];simp only [Except.ok.injEq,Prod.mk.injEq] at hs;obtain ⟨a1,a2,a3⟩:=hs;subst a3;rw [if_pos rfl,a1,a2]
theorem abp {xs:List UInt8} {h:Nat×Nat×Nat×List UInt8} (hh:ZW xs=.ok h):4<=xs.length/\yj (zZ (xs.take (xs.length-4)))=xs.drop (xs.length-4)/\xs.take (xs.length-4)=[77,83,1]++(leb h.1++(leb h.2.1++(leb h.2.2.1++h.2.2.2))) /\
  h.1<=2147483647/\h.2.1<=9223372036854775807/\h.2.2.1<=1048576:=by
 unfold ZW at hh
 split at hh
 ·cases hh
 split at hh
 ·rename_i h4 hs
  split at hh
  ·rename_i h3
   obtain ⟨a,b,c,d⟩:=agG hh;refine ⟨by omega,hs,?_,a,b,c⟩;rw [<-d,<-h3,List.take_append_drop]
  cases hh
 cases hh
theorem VM {α:Type} (es:List (List α)):es.flatten=(List.range es.length).flatMap fun i=>(es[i]?).getD []:=by
 rw [List.flatMap_def]
 congr 1
 refine List.ext_getElem (by simp) fun i h1 h2=>?_;simp [List.getElem?_eq_getElem h1]
theorem ah2 {k:Int} {nl:Bool} {xs:List UInt8} {n:Int} {l:List Cl} {s:Nat} (h:Y9 k nl xs n=.ok (l,s)):xs=YO k nl l []++xs.drop s:=by
 obtain ⟨-,-,-,-,hp,-⟩:=UW k nl xs n l s h;rw [hp,List.take_append_drop]
theorem adS {cs:List Co} {n:Nat} {xs:List UInt8} {p:List It×List UInt8} (hm:yD cs=true) (hn:n<=1048576) (h:Ub cs n xs=.ok p) :
  p.1.length=n/\xs=Yq cs p.1 cs.length++(wsB p.1++p.2)/\(∀ it∈p.1,qm cs it.1=0/\it.2≠0 /\ -9223372036854775808<=it.2/\it.2<=9223372036854775807):=by
 unfold Ub at h;obtain ⟨t,ht,h⟩:=qo h;obtain ⟨w,hw,h⟩:=qo h;cases h
 obtain ⟨es,a1,a2,a3,a4⟩:=aai (UX cs (n:Int)) cs.length (fun j l e=>∀ c,cs[j]? = some c->l.length=n/\e=YO c.2.2.1 c.2.2.2.1 l []/\Yr c.2.2.1 c.2.2.2.1 l=true) (fun j hj t xs s hs=>by
  have hc:=List.getElem?_eq_getElem hj;unfold UX at hs;rw [hc] at hs;obtain ⟨⟨l,k⟩,hg,hs⟩:=qo hs;cases hs;refine ⟨l,_,rfl,ah2 hg,fun c hc2=>?_⟩;rw [hc] at hc2;cases hc2;obtain ⟨-,b2,-,-,-,b6⟩:=UW _ _ _ _ _ _ hg;exact ⟨by omega,rfl,b6⟩) xs cs.length (Nat.le_refl _) t ht
 obtain ⟨fs,b1,b2,b3,b4⟩:=aai UE n (fun j x e=>e=leb (zig x)/\x≠0 /\ -9223372036854775808<=x/\x<=9223372036854775807) (fun j hj t xs s hs=>by
  unfold UE at hs;simp only at hs;rcases qt xs with ⟨m,hg,hm,hl,ht⟩ | ⟨e,hg,he,-⟩
  ·rw [hg] at hs;simp only [if_true] at hs
   split at hs
   ·cases hs
   rename_i hz
   cases hs;refine ⟨zag m,leb m,rfl,?_,by rw [abu],hz,adv m hm⟩
   conv=>lhs;rw [<-List.take_append_drop (leb m).length xs,<-ht]
  rw [hg] at hs;simp [he] at hs) t.2 n (Nat.le_refl _) w hw
 have hlen:(yF t.1 w.1).length=n:=by simp [yF,b1]
 have hat:∀ i it,(yF t.1 w.1)[i]? = some it->i<n/\it=(t.1.map fun l=>(l[i]?).getD Zh,(w.1[i]?).getD 0):=by
  intro i it hi;have hlt:=(List.getElem?_eq_some_iff.1 hi).1;rw [hlen] at hlt;refine ⟨hlt,?_⟩;simp only [yF,List.getElem?_map,b1,List.getElem?_range hlt,Option.map_some,Option.some.injEq] at hi;exact hi.symm
 have hcol:∀ k c,cs[k]? = some c->∃ l,t.1[k]? = some l/\Zk (yF t.1 w.1) k=l/\es[k]? = some (YO c.2.2.1 c.2.2.2.1 l [])/\l.length=n/\Yr c.2.2.1 c.2.2.2.1 l=true:=by
  intro k c hc;have hk:=(List.getElem?_eq_some_iff.1 hc).1;have h1:=List.getElem?_eq_getElem (l:=t.1) (i:=k) (by omega);have h2:=List.getElem?_eq_getElem (l:=es) (i:=k) (by omega);obtain ⟨g1,g2,g3⟩:=a4 k _ _ h1 h2 c hc;refine ⟨_,h1,?_,by rw [<-g2];exact h2,g1,g3⟩;unfold Zk yF;rw [List.map_map];refine List.ext_getElem (by simp [b1,g1]) fun i q1 q2=>?_;simp [h1,List.getElem?_eq_getElem q2]
 refine ⟨hlen,?_,?_⟩
 ·show xs=Yq cs (yF t.1 w.1) cs.length++(wsB (yF t.1 w.1)++w.2);have e1:es.flatten=Yq cs (yF t.1 w.1) cs.length:=by
   rw [VM,a2,Yq,List.flatMap_def,List.flatMap_def]
   congr 1
   refine List.ext_getElem (by simp) fun k q1 q2=>?_;simp only [List.length_map,List.length_range] at q1;obtain ⟨l,-,g2,g3,-,-⟩:=hcol k _ (List.getElem?_eq_getElem q1);simp only [List.getElem_map,List.getElem_range,g3,Option.getD_some,ada,List.getElem?_eq_getElem q1,g2]
  have e2:fs.flatten=wsB (yF t.1 w.1):=by
   rw [VM,b2,wsB,List.flatMap_def,List.flatMap_def]
   congr 1
   refine List.ext_getElem (by simp [hlen]) fun i q1 q2=>?_;simp only [List.length_map,List.length_range] at q1;have h1:=List.getElem?_eq_getElem (l:=w.1) (i:=i) (by omega);have h2:=List.getElem?_eq_getElem (l:=fs) (i:=i) (by omega);have g:=(b4 i _ _ h1 h2).1;simp only [List.getElem_map,List.getElem_range,h2,Option.getD_some,yF,h1];exact g
  rw [a3,b3,e1,e2]
 intro it hit;obtain ⟨i,hi⟩:=List.getElem?_of_mem hit;obtain ⟨hlt,hie⟩:=hat i it hi;have h1:=List.getElem?_eq_getElem (l:=w.1) (i:=i) (by omega);have h2:=List.getElem?_eq_getElem (l:=fs) (i:=i) (by omega);have g:=(b4 i _ _ h1 h2).2;have hw2:it.2=w.1[i]:=by rw [hie,h1];rfl
 refine ⟨?_,by rw [hw2];exact g.1,by rw [hw2];exact g.2.1,by rw [hw2];exact g.2.2⟩;unfold qm;have hl:it.1.length=cs.length:=by rw [hie];simp [a1]
 rw [if_pos hl,Vd];intro k c x hc hx;obtain ⟨l,g1,-,-,g4,g5⟩:=hcol k c hc;rw [hie] at hx;simp only [List.getElem?_map,g1,Option.map_some,Option.some.injEq] at hx;have hxl:=List.getElem?_eq_getElem (l:=l) (i:=i) (by omega);rw [hxl,Option.getD_some] at hx;unfold Yr at g5;have:=List.all_eq_true.1 g5 l[i] (List.getElem_mem _);rw [<-hx];simpa using this
theorem abi {cs:List Co} {xs:List UInt8} {b:Ba} (h:qj cs xs=.ok b):Fits cs b/\Jm b/\yN cs b=xs:=by
 unfold qj at h
 split at h
 ·rename_i hm
  obtain ⟨g,hg,h⟩:=qo h;obtain ⟨q,hq,h⟩:=qo h
  split at h
  ·rename_i hnil
   cases h;obtain ⟨a1,a2,a3,a4,a5,a6⟩:=abp hg;obtain ⟨b1,b2,b3⟩:=adS hm a6 hq;rw [hnil,List.append_nil] at b2;have hbody:yf cs ((g.1:Int),(g.2.1:Int),q.1)=xs.take (xs.length-4):=by
    rw [a3,b2];simp [yf,VL,b1]
   refine ⟨⟨hm,by simp,by simp only;omega,by simp,by simp only;omega,fun it hit=>⟨(b3 it hit).1,(b3 it hit).2.1⟩⟩,⟨by simp only;omega,fun it hit=>(b3 it hit).2.2⟩,?_⟩;unfold yN;rw [hbody,a2,List.take_append_drop]
  cases h
 cases h
theorem Fits.cut {cs:List Co} {b:Ba} (h:Fits cs b) (hb:Jm b) (j:Nat) (hj:j<(yN cs b).length):∃ e,qj cs ((yN cs b).take j)=.error e:=by
 rcases hd:qj cs ((yN cs b).take j) with e | a
 ·exact ⟨e,rfl⟩
 exfalso;obtain ⟨ha,hao,he⟩:=abi hd;have h1:=ha.stream hao (yj (zZ (yf cs a))++(yN cs b).drop j);have h2:=h.stream hb (yj (zZ (yf cs b)));rw [<-List.append_assoc,show yf cs a++yj (zZ (yf cs a))=(yN cs b).take j from he,List.take_append_drop] at h1;rw [show yf cs b++yj (zZ (yf cs b))=yN cs b from rfl,h1] at h2;simp only [Except.ok.injEq,Prod.mk.injEq] at h2;have hab:a=b:=Prod.ext h2.1 (Prod.ext h2.2.1 h2.2.2.1);rw [hab] at he;have:=congrArg List.length he;rw [List.length_take] at this;omega
end
section
open Go.RowKit Go.Deep Go.ChangeShapes Go.WideShapes
theorem qX {α β:Type} (f:α->List β) (s:Nat) (hs:∀ a,(f a).length=s):∀ (l:List α) (k j:Nat) (a:α),l[k]? = some a->j<s->(l.flatMap f)[k*s+j]? = (f a)[j]? := by
 intro l
 induction l with
 | nil=>intro k j a h _;simp at h
 | cons b l ih=>
  intro k j a h hj;simp only [List.flatMap_cons];cases k with
  | zero=>
   simp only [List.getElem?_cons_zero,Option.some.injEq] at h;subst h;rw [Nat.zero_mul,Nat.zero_add,List.getElem?_append_left (by rw [hs];exact hj)]
  | succ k=>
   simp only [List.getElem?_cons_succ] at h;rw [List.getElem?_append_right (by rw [hs,Nat.succ_mul];omega),hs,<-ih k j a h hj]
   congr 1
   rw [Nat.succ_mul];omega
theorem yC {α β:Type} (f:α->List β) (s:Nat) (hs:∀ a,(f a).length=s) (l:List α):(l.flatMap f).length=l.length*s:=by
 induction l with
 | nil=>simp
 | cons b l ih=>rw [List.flatMap_cons,List.length_append,ih,hs,List.length_cons,Nat.succ_mul,Nat.add_comm]
section
variable {H:Type} {enc:TypeId×Value->H} {P:Program} {w:World} {held:Bool} {sp:Nat->Bool} {base:Nat}
theorem yH {ts:TypeId} {fs:Array Field} {fuel:Nat} {cs:List Value} {x:DataW H×List MemPlace} (hs:P.underlying ts=some (.struct fs)) (hone:oneCellFields P fs=true) (hC:P.cellsOf ts=fs.size)
  (h:DataW.trod enc P w base sp held fuel ts cs=some x) :
  ∃ n,cs.length=fs.size/\∀ (i:Nat) (f:Field) (v:Value),fs[i]? = some f->cs[i]? = some v->∃ y,DataW.trod enc P w base sp held n f.type [v]=some y:=by
 obtain ⟨xs,n,_,rfl,hcl,hxl,hf⟩:=DataW.trod_struct hs h;refine ⟨n,by rw [hcl,hC],fun i f v hi hv=>?_⟩;obtain ⟨ho,hc1⟩:=hone_of hone i f hi;have g:=hf i f hi;have hlt:i<fs.size:=(Array.getElem?_eq_some_iff.1 hi).1;have hci:i<cs.length:=by rw [hcl,hC];exact hlt
 rw [ho,hc1,take1_drop cs i v hci] at g;have hg:cs.getD i v=v:=by rw [List.getD_eq_getElem?_getD,hv];rfl
 rw [hg,List.getElem?_eq_getElem (by omega)] at g;exact ⟨_,g⟩
theorem Zp {α:Type} [Inhabited α] (size:Nat) (cells:α->List Value) (ok:α->Prop) (hpos:0<size) (hsz:∀ a,(cells a).length=size) {t e:TypeId} {a:Option Addr} {len cap:Nat} {d:DataW H} {p:List MemPlace}
  (ht:P.underlying t=some (.slice e)) (hc:P.cellsOf e=size)
  (hel:∀ n cs y,DataW.trod enc P w 0 (fun _=>true) held n e cs=some y->∃ x,cs=cells x/\ok x)
  (h:DataW.Trod enc P w 0 (fun _=>true) held t (.slice a len cap) d p) :
  ∃ xs:List α,Reads w w.heap.size size a len (xs.flatMap cells)/\len<=cap/\cap<=maxLen/\∀ x∈xs,ok x:=by
 obtain ⟨fuel,hf⟩:=h;rcases open_slice ht hf with ⟨hcs,_⟩ | ⟨ad,l,c,m,n,D,Pl,hcs,hb,hl,hm,hmm,_,hx⟩
 ·simp [Value.cells] at hcs;obtain ⟨rfl,rfl,rfl⟩:=hcs;exact ⟨[],Reads.none_,Nat.le_refl _,by simp [maxLen],by simp⟩
 simp [Value.cells] at hcs;obtain ⟨rfl,rfl,rfl⟩:=hcs;simp only [if_true] at hmm;subst hmm;rw [hc] at hx
 obtain ⟨X,hX⟩:=choose_lt (α:=α) (p:=fun i x=>w.cells? 0 (ad.add (i*size)) size=some (cells x)/\ok x) (fun i hi=>by
  obtain ⟨cs',h1,h2⟩:=hx i hi;obtain ⟨x,rfl,h3⟩:=hel _ _ _ h2;exact ⟨x,h1,h3⟩)
 have hcell:∀ j u,((List.range len).map X |>.flatMap cells)[j]? = some u->w.cell? (ad.add j)=some u:=by
  intro j u hu;have hjl:j<len*size:=by
   have:=(List.getElem?_eq_some_iff.1 hu).1;rw [yC _ size hsz] at this;simpa using this
  have hjd:=Nat.div_add_mod j size;have hdl:j / size<len:=(Nat.div_lt_iff_lt_mul hpos).2 hjl;obtain ⟨h1,_⟩:=hX (j / size) (by omega);obtain ⟨_,_,h3⟩:=World.cells?_some h1;have h4:=h3 (j % size) (Nat.mod_lt _ hpos);rw [qY,show j / size*size+j % size=j from by rw [Nat.mul_comm];exact hjd] at h4;rw [h4,<-hu];have h5:=qX cells size hsz ((List.range len).map X) (j / size) (j % size) (X (j / size)) (by rw [List.getElem?_map,List.getElem?_range hdl];rfl) (Nat.mod_lt _ hpos);rw [show j / size*size+j % size=j from by rw [Nat.mul_comm];exact hjd] at h5;exact h5.symm
 refine ⟨(List.range len).map X,⟨?_,fun hn=>⟨ad,rfl,?_,hcell⟩⟩,hl,hm,fun x hx=>?_⟩
 ·rw [yC _ size hsz];simp
 ·obtain ⟨h1,_⟩:=hX 0 (by omega);obtain ⟨_,hl0,h3⟩:=World.cells?_some h1;have h4:=h3 0 hpos;rw [List.getElem?_eq_getElem (by omega)] at h4;have:=World.block_lt_of_cell? _ _ h4;rwa [zg,zg] at this
 obtain ⟨i,hi,rfl⟩:=List.mem_map.1 hx;exact (hX i (by have:=List.mem_range.1 hi;omega)).2
end
end
section
open Go.RowKit
theorem VB:(Tryz.prog.info? 4).map (fun i=>(i.zero,i.size,i.bytes))=some (some (.bool false),1,1):=by kernel_rfl
theorem af5 (n:Nat):((n:Int)+8-1) / 8=((zD n:Nat):Int):=by unfold zD;omega
theorem acz (n:Nat) (w:World) (hn:n<=4611686018427387904) :
  Calls Tryz.prog 162 #[.int .i64 (n:Int)] w fun e w'=>e=.returned (.int .i64 ((zD n:Nat):Int))/\w=w':=by
 go_enter Tryz.func162,Tryz.ntmps162;go_wp2;go_ret;exact ⟨by rw [<-af5];rfl,rfl⟩
theorem af7 (n:Int) (w:World) (h1 : -9223372036854775808<=n) (h2:n<=9223372036854775807) :
  Calls Tryz.prog 242 #[.int .i64 n] w fun e w'=>e=.returned (.int .i64 ((JI n:Nat):Int))/\w=w':=by
 by_cases h:n<0\/1048576<n
 ·have hs:JI n=0:=by unfold JI;rw [if_pos h]
  rw [hs];rcases h with h | h;all_goals
   go_enter Tryz.func242,Tryz.ntmps242;go_wp2;go_ret;exact ⟨rfl,rfl⟩
 have hs:JI n=zD n.toNat:=by unfold JI;rw [if_neg h]
 rw [hs];obtain ⟨m,rfl⟩:=Int.eq_ofNat_of_zero_le (by omega:0<=n);rw [Int.toNat_natCast];clear hs h1 h2;have hm:m<=1048576:=by omega
 clear h;go_enter Tryz.func242,Tryz.ntmps242;go_wp2_with fail
 with_reducible refine (acz m _ (by omega)).mono ?_
 rintro e w' ⟨rfl,rfl⟩;go_wp2;go_ret;exact ⟨rfl,rfl⟩
theorem aj7 (x s:Nat) (hx:x<2 ^ s) (hs:s<8):bits .or .u8 (x:Int) (2 ^ s)=((x+2 ^ s:Nat):Int):=by
 have h2:(2:Nat) ^ s<=2 ^ 7:=Nat.pow_le_pow_right (by omega) (by omega);have e:((2:Int) ^ s)=((2 ^ s:Nat):Int):=by rw [Int.natCast_pow];rfl
 rw [e,u8_or_nat _ _ (by omega) (by omega)];have:=nat_join s (2 ^ s) x (Nat.mod_self _) hx;rw [Nat.or_comm,this,Nat.add_comm]
theorem ZZ (A:Option Addr) (l c:Nat) (xs:List Bool) (w:World) (hr:Reads w w.heap.size 1 A l (bls xs)) (hl:l<=c) (hc:c<=maxLen) (hb:l<=1099511627776) :
  Calls Tryz.prog 106 #[.slice A l c] w fun e w'=>∃ A' c',e=.returned (.slice A' (zB xs).length c')/\(zB xs).length<=c'/\c'<=maxLen /\
   w'.ownsRow w.heap.size 5 1 (.slice A' (zB xs).length c') (zB xs).length (u8s (zB xs))/\Below w.heap.size w w':=by
 obtain ⟨i0,hi0,hz0,hz1,hz2⟩:=info_parts z7;unfold maxLen at hc;have hlen:=aj6 hr;have Hlen:=za hlen;have hN:zD l<=1099511627776:=by unfold zD;omega
 have hmk:=fun W:World=>run_make (P:=Tryz.prog) W 35 5 i0 (.int .u8 0) Tryz.underlying35 hi0 hz0 .i64 .i64 ((zD l:Nat):Int) ((zD l:Nat):Int) (by omega) (by omega) (by rw [hz2];omega) (by omega);simp only [Int.toNat_natCast,hz1,Nat.mul_one] at hmk;clear hlen;go_enter Tryz.func106,Tryz.ntmps106;go_wp2_with fail
 with_reducible refine (acz l _ (by omega)).mono ?_
 rintro e w' ⟨rfl,rfl⟩;go_wp2;go_loopw [12] (fun v wr=>∃ i:Nat,i<=l/\v=.int .i64 (i:Int)/\Blk wr w.heap.size 5 (u8s (yt (zD l) (xs.take i))).toArray/\Below w.heap.size w wr) (fun v _=>l-(intOf v).toNat)
 case atStart=>
  refine ⟨0,Nat.zero_le _,rfl,?_,(Below.refl _ _).alloc (Nat.le_refl _) _⟩;have e:madeCells #[Value.int .u8 0] (zD l)=(u8s (yt (zD l) (xs.take 0))).toArray:=by
   apply Array.ext';rw [toList_madeCells_one,ad6];simp [u8s]
  rw [<-e];exact Blk.new _ _ _
 case round=>
  obtain ⟨i,hi,rfl,hblk,hB⟩:=hrel;by_cases hlt:i<l
  ·obtain ⟨ad,v,rfl,hbk,hx,hcell⟩:=hr.at_ hlt;rw [<-hB.cell (p:=ad.add i) (by rw [zg];exact hbk)] at hcell;obtain ⟨b,hb',rfl⟩:=Uy _ _ _ hx;have hf:i / 8<zD l:=(by unfold zD;omega);clear hx hbk;cases b with
   | false=>
    have hs:=za (U3 (zD l) xs i hb' hf);clear hb';go_wp2;go_roundw;case rel=>exact ⟨i+1,by omega,by go_num,by rw [hs.out];exact hblk,hB⟩
    case measure=>simp [intOf];omega
   | true=>
    obtain ⟨s1,s2,s3⟩:=VU (zD l) xs i true hb' hf;generalize zP (ZI xs i (i / 8))=x at s1 s2 s3;have hx8:x<256:=by
     have:2 ^ (i % 8)<=2 ^ 8:=Nat.pow_le_pow_right (by omega) (by omega);omega
    have hold:wr.cell? ⟨w.heap.size,i / 8,none⟩=some (.int .u8 (x:Int)):=by
     rw [hblk.cell];simp [u8s,s3,Nat.mod_eq_of_lt hx8]
    have hfz:=hblk.frozen (i / 8);have S1:=za s1;have S2:=za s2;clear s1 s2 s3 hb';go_wp2;go_region;have hv:bits .or .u8 (x:Int) ((2:Int) ^ (i % 8) % 256)=((UInt8.ofNat (x+2 ^ (i % 8))).toNat:Int):=by
     have h2:(2:Nat) ^ (i % 8)<=2 ^ 7:=Nat.pow_le_pow_right (by omega) (by omega);have e:((2:Int) ^ (i % 8)) % 256=(2:Int) ^ (i % 8):=by
      have e:((2:Int) ^ (i % 8))=((2 ^ (i % 8):Nat):Int):=(by rw [Int.natCast_pow];rfl);rw [e];generalize 2 ^ (i % 8)=q at h2 ⊢;omega
     have:=S2.out;rw [e,aj7 x (i % 8) S2.out (by omega),ZO _ (by omega)]
    rw [hv];have hblk2:=(hblk.set_ (i / 8) (.int .u8 ((UInt8.ofNat (x+2 ^ (i % 8))).toNat:Int))).drew;have hB2:=(aj4 (p:=⟨w.heap.size,i / 8,none⟩) hB (Nat.le_refl _) (.int .u8 ((UInt8.ofNat (x+2 ^ (i % 8))).toNat:Int))).drew;have hs1:=S1.out;rw [if_pos trivial] at hs1;rw [List.setIfInBounds_toArray,aeW,<-hs1] at hblk2;clear hs1 hblk hB;go_wp2;go_roundw;case rel=>exact ⟨i+1,by omega,by go_num,hblk2,hB2⟩
    case measure=>simp [intOf];omega
  go_wp2;go_ret;have hil:xs.take i=xs:=List.take_of_length_le (by rw [Hlen.out];omega);rw [hil] at hblk;have hpl:(zB xs).length=zD l:=by rw [yY,Hlen.out]
  have hpe:yt (zD l) xs=zB xs:=by rw [zB,Hlen.out]
  rw [hpl];rw [hpe] at hblk;exact ⟨some ⟨w.heap.size,0,none⟩,zD l,rfl,Nat.le_refl _,by simp only [maxLen];omega,hblk.own (Nat.le_refl _) rfl (by simp [hpl]) (by simp only [maxLen];omega),hB⟩
theorem aee (A:Option Addr) (l c:Nat) (xs:List Bool) (w:World) (hr:Reads w w.heap.size 1 A l (bls xs)) (hl:l<=c) (hc:c<=maxLen) :
  Calls Tryz.prog 156 #[.slice A l c] w fun e w'=>e=.returned (.int .i64 ((zx xs:Nat):Int))/\w=w':=by
 unfold maxLen at hc;have Hlen:=za (aj6 hr);go_enter Tryz.func156,Tryz.ntmps156;go_wp2
 go_loop [2,7] (fun u v=>∃ i k:Nat,i<=l/\v=.int .i64 (i:Int)/\u=.int .i64 (k:Int)/\k<=i/\Hid (k=zx (xs.take i))) (fun _ v=>l-(intOf v).toNat)
 case atStart=>exact ⟨0,0,Nat.zero_le _,rfl,rfl,Nat.le_refl _,by show 0=zx (xs.take 0);simp [zx]⟩
 case round=>
  obtain ⟨i,k,hi,rfl,rfl,hk,Hk⟩:=hrel;by_cases hlt:i<l
  ·obtain ⟨ad,v,rfl,hbk,hx,hcell⟩:=hr.at_ hlt;obtain ⟨b,hb',rfl⟩:=Uy _ _ _ hx;have hs:=V2 xs i b hb';rw [<-Hk.out] at hs;have Hs:=za hs;clear hx hb' hs hbk;cases b
   ·go_wp2
    go_round
    case rel=>exact ⟨i+1,k,by omega,by go_num,rfl,by omega,by show _=_;rw [Hs.out];simp⟩
    case measure=>simp [intOf];omega
   go_wp2
   go_round
   case rel=>exact ⟨i+1,k+1,by omega,by go_num,by go_num,by omega,by show _=_;rw [Hs.out];simp⟩
   case measure=>simp [intOf];omega
  go_wp2;go_ret;have hil:xs.take i=xs:=List.take_of_length_le (by rw [Hlen.out];omega);exact ⟨by have:=Hk.out;rw [hil] at this;rw [<-this];rfl,rfl⟩
end
section
open Go.RowKit
theorem ZY (i:Nat) (h:i % 8=0):zD (i+1)=zD i+1:=by unfold zD;omega
theorem af4 (i:Nat) (h:i % 8≠0):zD (i+1)=zD i:=by unfold zD;omega
theorem JZ {W:World} {base c:Nat} {A:Option Addr} (xs:List Bool) (i:Nat) (b:Bool) (hb:xs[i]? = some b)
  (h:W.ownsRow base 5 1 (.slice A (zD (i+1)) c) (zD (i+1)) (u8s (yt (zD (i+1)) (xs.take i)))) :
  ∃ g x:Nat,A=some ⟨g,0,none⟩/\i / 8<zD (i+1)/\base<=g/\g<W.heap.size/\x<2 ^ (i % 8)/\x<128/\W.cell? ⟨g,i / 8,none⟩=some (.int .u8 (x:Int))/\W.frozen? ⟨g,i / 8,none⟩=false /\
   (b=true->(W.setCell ⟨g,i / 8,none⟩ (.int .u8 ((x+2 ^ (i % 8):Nat):Int))).ownsRow base 5 1 (.slice A (zD (i+1)) c) (zD (i+1)) (u8s (yt (zD (i+1)) (xs.take (i+1))))) /\
   (b=false->yt (zD (i+1)) (xs.take (i+1))=yt (zD (i+1)) (xs.take i)):=by
 have hf:i / 8<zD (i+1):=by unfold zD;omega
 obtain ⟨g,rfl,h1,h1b,h2,h3⟩:=ajN h (by omega);obtain ⟨s1,s2,s3⟩:=VU (zD (i+1)) xs i b hb hf;generalize zP (ZI xs i (i / 8))=x at s1 s2 s3;have hp:(2:Nat) ^ (i % 8)<=2 ^ 7:=Nat.pow_le_pow_right (by omega) (by omega);refine ⟨g,x,rfl,hf,h1,h1b,s2,by omega,h2 _ _ ?_,h3 _,fun hbt=>?_,fun hbf=>?_⟩
 ·simp [u8s,s3,Nat.mod_eq_of_lt (by omega:x<256)]
 ·have:=ai4 h (i / 8) hf (.int .u8 ((UInt8.ofNat (x+2 ^ (i % 8))).toNat:Int));rw [ZO _ (by omega)] at this;rw [s1,if_pos hbt,<-aeW,ZO _ (by omega)];exact this
 subst hbf;exact U3 _ _ _ hb hf
theorem aeZ (i:Nat):2 ^ (i % 8)<=128:=by
 have hp:(2:Nat) ^ (i % 8)<=2 ^ 7:=Nat.pow_le_pow_right (by omega) (by omega);omega
theorem aa5 (i:Nat) (h:(i+1) % 8≠0):2*2 ^ (i % 8)=2 ^ ((i+1) % 8):=by
 have:(i+1) % 8=i % 8+1:=by omega
 rw [this,Nat.pow_succ];omega
theorem Uc (A:Option Addr) (l c:Nat) (xs:List Bool) (w:World) (hr:Reads w w.heap.size 1 A l (bls xs)) (hl:l<=c) (hc:c<=maxLen) (hb:l<=1099511627776) :
  Calls Tryz.prog 148 #[.slice A l c] w fun e w'=>∃ A' c',e=.returned (.slice A' (zB xs).length c')/\(zB xs).length<=c'/\c'<=maxLen /\
   w'.ownsRow w.heap.size 5 1 (.slice A' (zB xs).length c') (zB xs).length (u8s (zB xs))/\Below w.heap.size w w':=by
 obtain ⟨i0,hi0,hz0,hz1,hz2⟩:=info_parts z7;unfold maxLen at hc;have Hlen:=za (aj6 hr);have hN:zD l<=1099511627776:=by unfold zD;omega
 go_enter Tryz.func148,Tryz.ntmps148;go_wp2
 go_loopw [3,4,5] (fun o v u wr=>∃ (i p:Nat) (A1:Option Addr) (c1:Nat),i<=l/\u=.int .i64 (i:Int)/\v=.int .u8 (p:Int)/\p<256/\Hid (i % 8≠0->p=2 ^ (i % 8))/\o=.slice A1 (zD i) c1 /\
  wr.ownsRow w.heap.size 5 1 (.slice A1 (zD i) c1) (zD i) (u8s (yt (zD i) (xs.take i)))/\Below w.heap.size w wr) (fun _ _ u _=>l-(intOf u).toNat)
 case atStart=>exact ⟨0,1,none,0,Nat.zero_le _,rfl,rfl,by omega,fun h=>absurd rfl h,rfl,World.ownsRow_nil _ _ _ _,Below.refl _ _⟩
 case round=>
  obtain ⟨i,p,A1,c1,hi,rfl,rfl,hp,Hp,rfl,hown,hB⟩:=hrel;by_cases hlt:i<l
  ·obtain ⟨ad,v,rfl,hbk,hx,hcell⟩:=hr.at_ hlt;rw [<-hB.cell (p:=ad.add i) (by rw [zg];exact hbk)] at hcell;obtain ⟨b,hb',rfl⟩:=Uy _ _ _ hx;have hbase:=hB.size;clear hx;by_cases h8:i % 8=0
   ·have ht:(((i:Int) % 8)==0)=true:=(by simp;omega);have hnl:zD i<=zD l:=(by unfold zD;omega);have hs1:zD i+1<=maxLen:=(by simp only [maxLen];omega);have hs2:(zD i+1)*1<=70368744177664:=(by omega);have H8:=za h8;clear h8;cases b;all_goals
     go_wp2_with (at_builtin
                  refine zb _ rfl (.tmp 15) (.tmp 16) 35 rfl w.heap.size 5 i0 (.int .u8 0) 1 1 Tryz.underlying35 hi0 hz0 hz1 hz2 rfl (by decide) A1 _ c1 _ rfl (hown.alloc _) _ 1 1 _ rfl (zq _ _ _) (Zw _ _) hs1 hs2 (by simp;omega) ?_;intro A2 c2 w2 hown2 hb2 hg2 hc2 hm2;have hB2:=(hB.alloc hbase _).trans hb2;have hcell2:=hcell;rw [hB.cell (p:=ad.add i) (by rw [zg];exact hbk),<-hB2.cell (p:=ad.add i) (by rw [zg];exact hbk)] at hcell2;rw [show [Value.int .u8 0]=u8s [0] from rfl,<-zt,<-ad7 _ _ (by rw [List.length_take];have:=Uj i;omega),<-ZY i H8.out] at hown2;obtain ⟨g,x,rfl,hf,hg,hg2',hx1,hx2,hc1',hf1,hst,hsf⟩:=JZ xs i _ hb' hown2;have hx0:x=0:=(by rw [H8.out] at hx1;omega);subst hx0;rw [ZY i H8.out] at *;clear hb2 hcell hB hown hx1 hx2)
    ·go_roundw;case rel=>
      refine ⟨i+1,2,some ⟨g,0,none⟩,c2,by omega,by go_num,rfl,by omega,?_,by rw [ZY i H8.out],?_,hB2⟩
      ·intro _;rw [show (i+1) % 8=1 by have:=H8.out;omega]
      rw [ZY i H8.out,hsf rfl];exact hown2
     case measure=>simp [intOf];omega
    go_roundw;case rel=>
     refine ⟨i+1,2,some ⟨g,0,none⟩,c2,by omega,by go_num,rfl,by omega,?_,by rw [ZY i H8.out],?_,aj4 (p:=⟨g,i / 8,none⟩) hB2 hg _⟩
     ·intro _;rw [show (i+1) % 8=1 by have:=H8.out;omega]
     rw [ZY i H8.out];have:=hst rfl;rw [H8.out] at this;exact this
    case measure=>simp [intOf];omega
   have ht:(((i:Int) % 8)==0)=false:=(by simp;omega);rw [<-af4 i h8] at hown ⊢;obtain ⟨g,x,rfl,hf,hg,hg2',hx1,hx2,hc1',hf1,hst,hsf⟩:=JZ xs i _ hb' hown;have hpp:=Hp.out h8;have H8:=za h8;have Hpp:=za hpp;have Hx1:=za hx1;have hp128:p<=128:=(by rw [hpp];exact aeZ i);have hxp:x+p<256:=(by omega);clear h8 hpp hx1;have hpn:(i+1) % 8≠0->p*2 % 256=2 ^ ((i+1) % 8):=fun h=>by
    rw [<-aa5 i h,<-Hpp.out];have:=aeZ (i+1);rw [<-aa5 i h,<-Hpp.out] at this;omega
   have Hpn:=za hpn;clear hpn;cases b
   ·go_wp2;go_roundw;case rel=>exact ⟨i+1,p*2 % 256,some ⟨g,0,none⟩,c1,by omega,by go_num,by go_num,by omega,Hpn.out,rfl,by rw [hsf rfl];exact hown,hB⟩
    case measure=>simp [intOf];omega
   go_wp2;go_roundw;case rel=>
    refine ⟨i+1,p*2 % 256,some ⟨g,0,none⟩,c1,by omega,by go_num,by go_num,by omega,Hpn.out,rfl,?_,aj4 (p:=⟨g,i / 8,none⟩) hB hg _⟩;have:=hst rfl;rw [<-Hpp.out] at this;exact this
   case measure=>simp [intOf];omega
  go_wp2;go_ret;have hil:xs.take i=xs:=List.take_of_length_le (by rw [Hlen.out];omega);have hie:i=l:=by omega
  have hpl:(zB xs).length=zD i:=by rw [yY,Hlen.out,hie]
  have hpe:yt (zD i) xs=zB xs:=by rw [zB,Hlen.out,hie]
  rw [hil,hpe] at hown;rw [hpl];obtain ⟨A',c',hv,h1,h2⟩:=zY hown
  injection hv with hA hn hc'
  subst hA hc';exact ⟨A1,c1,rfl,h1,h2,hown,hB⟩
end
section
open Go.RowKit
theorem aj8 (b k:Nat) (hb:b<256):(bits .and .u8 ((b:Int) / 2 ^ k) 1==1)=(b / 2 ^ k % 2==1):=by
 have e:((b:Int) / 2 ^ k)=((b / 2 ^ k:Nat):Int):=by rw [Int.natCast_ediv,Int.natCast_pow];rfl
 have hle:b / 2 ^ k<=b:=Nat.div_le_self _ _;rw [e,show (1:Int)=((1:Nat):Int) from rfl,u8_and_nat _ _ (by omega) (by omega),nat_mask1];rw [Bool.eq_iff_iff];simp;omega
def ado (r:List Bool×Nat×Nat) (w:World) (e:Ending) (w':World):Prop:=
 ∃ A c,e=.returned (.tuple #[.slice A r.1.length c,.int .i64 (r.2.1:Int),.int .i64 (r.2.2:Int)])/\r.1.length<=c/\c<=maxLen/\Reads w' w'.heap.size 1 A r.1.length (bls r.1)/\Below w.heap.size w w'
theorem U5 (er:Nat) (w:World):ado ([],0,er) w (.returned (.tuple #[.slice none 0 0,.int .i64 0,.int .i64 (er:Int)])) w:=
 ⟨none,0,rfl,Nat.le_refl _,by simp [maxLen],Reads.none_,Below.refl _ _⟩
theorem ail (A:Option Addr) (l c:Nat) (w:World) (hl:l<=c) (hc:c<=maxLen) :
  Calls Tryz.prog 243 #[.slice A l c] w fun e w'=>e=.returned (.slice A l l)/\w=w':=by
 unfold maxLen at hc;go_enter Tryz.func243,Tryz.ntmps243;go_wp2;go_ret;exact ⟨rfl,rfl⟩
theorem acD (A:Option Addr) (l c:Nat) (xs:List UInt8) (n:Int) (w:World) (hr:Reads w w.heap.size 1 A l (u8s xs)) (hl:l<=c) (hc:c<=maxLen) (h1 : -9223372036854775808<=n) (h2:n<=9223372036854775807) :
  Calls Tryz.prog 194 #[.slice A l c,.int .i64 n] w (ado (zr xs n) w):=by
 obtain ⟨i0,hi0,hz0,hz1,hz2⟩:=info_parts VB;unfold maxLen at hc;have Hlen:=za (zh hr);have hsz:=fun w=>af7 n w h1 h2;have Hsz:=za hsz;clear hsz;by_cases hn:n<0\/1048576<n
 ·have hu:zr xs n=([],0,6):=by unfold zr;rw [if_pos hn]
  rw [hu];clear hu h1 h2;rcases hn with hn | hn;all_goals
   go_enter Tryz.func194,Tryz.ntmps194;go_wp2;go_step3;(go_wp2_with fail);refine (Hsz.out _).mono ?_;rintro e w' ⟨rfl,rfl⟩;go_wp2;rw [Exit.noGoto_ret]
   go_ret3
   exact U5 6 w
 obtain ⟨m,rfl⟩:=Int.eq_ofNat_of_zero_le (by omega:0<=n);have hm:m<=1048576:=by omega
 have hu:zr xs (m:Int)=qy xs m:=by unfold zr;rw [if_neg hn,Int.toNat_natCast]
 have hss:JI (m:Int)=zD m:=by unfold JI;rw [if_neg hn,Int.toNat_natCast]
 rw [hu];rw [hss] at Hsz;clear hu hss h1 h2 hn;have hnm:zD m<=131072:=by unfold zD;omega
 by_cases hshort:l<zD m
 ·have hu:qy xs m=([],0,3):=by unfold qy;rw [if_pos (by rw [Hlen.out];exact hshort)]
  rw [hu];clear hu;go_enter Tryz.func194,Tryz.ntmps194;go_wp2;go_step3;go_wp2_with fail
  refine (Hsz.out _).mono ?_;rintro e w' ⟨rfl,rfl⟩;go_wp2;rw [Exit.noGoto_ret]
  go_ret3
  exact U5 3 w
 go_enter Tryz.func194,Tryz.ntmps194;go_wp2;go_step3;go_wp2_with fail
 refine (Hsz.out _).mono ?_;rintro e w' ⟨rfl,rfl⟩;go_wp2;go_step3;go_wp2
 go_loopw [4,6,25] (fun u x v wr=>∃ (i L:Nat) (A1:Option Addr) (c1:Nat),i<=zD m/\x=.int .i64 0/\v=.int .i64 (i:Int)/\u=.slice A1 L c1/\Hid (L=min (8*i) m) /\
  wr.ownsRow w.heap.size 4 1 (.slice A1 L c1) L (bls ((zO xs).take L))/\Hid (UC xs m (8*i))/\Below w.heap.size w wr) (fun _ _ v _=>zD m-(intOf v).toNat)
 case atStart=>exact ⟨0,0,none,0,Nat.zero_le _,rfl,rfl,rfl,by show 0=min (8*0) m;omega,World.ownsRow_nil _ _ _ _,abn _ _ _ (by omega),Below.refl _ _⟩
 case round=>
  obtain ⟨i,L,A1,c1,hi,rfl,rfl,rfl,HL,hown,Hcl,hB⟩:=hrel;by_cases hlt:i<zD m
  ·obtain ⟨ad,v,rfl,hbk,hx,hcell0⟩:=hr.at_ (k:=i) (by omega);obtain ⟨b,hb',rfl⟩:=Jn _ _ _ hx;have hb256:b.toNat<256:=b.toNat_lt;clear hx;have db:decide ((i:Int)<(zD m:Int))=true:=(by simp;omega);go_wp2
   go_loopw [4,6,28] (fun u x v wr=>∃ (k L:Nat) (A1:Option Addr) (c1:Nat),k<=8/\x=.int .i64 0/\v=.int .i64 (k:Int)/\u=.slice A1 L c1/\Hid (L=min (8*i+k) m) /\
    wr.ownsRow w.heap.size 4 1 (.slice A1 L c1) L (bls ((zO xs).take L))/\Hid (UC xs m (8*i+k))/\Below w.heap.size w wr) (fun _ _ v _=>8-(intOf v).toNat)
   case atStart=>exact ⟨0,L,A1,c1,Nat.zero_le _,rfl,rfl,rfl,HL,hown,Hcl,hB⟩
   case round=>
    clear HL hown Hcl hB;obtain ⟨k,L,A1,c1,hk,rfl,rfl,rfl,HL,hown,Hcl,hB⟩:=hrel;by_cases hlt2:k<8
    ·have hcell:=hcell0;rw [<-hB.cell (p:=ad.add i) (by rw [zg];exact hbk)] at hcell;have hbit:=Jh xs i k b hb' hlt2;have hbv:=aj8 b.toNat k hb256;generalize (b.toNat / 2 ^ k % 2==1)=bv at hbit hbv;have hbase:=hB.size;by_cases htm:8*i+k<m
     ·obtain rfl:L=8*i+k:=(by have:=HL.out;omega);have hnx:=afr _ _ _ hbit;have Hnx:=za hnx;have hs1:8*i+k+1<=maxLen:=(by simp only [maxLen];omega);have hs2:(8*i+k+1)*1<=70368744177664:=(by omega);clear hbit hnx
      go_wp2_with (at_builtin
                   refine zb _ rfl (.tmp 44) (.tmp 46) 145 rfl w.heap.size 4 i0 (.bool false) 1 1 Tryz.underlying145 hi0 hz0 hz1 hz2 rfl (by decide) A1 _ c1 _ rfl (hown.alloc _) _ 1 1 _ rfl (zq _ _ _) (Zg _) hs1 hs2 (by simp;omega) ?_;intro A2 c2 w2 hown2 hb2 hg2 hc2 hm2;rw [show [Value.bool bv]=bls [bv] from rfl,<-qu,<-Hnx.out] at hown2)
      go_roundw;case rel=>exact ⟨k+1,8*i+k+1,A2,c2,by omega,rfl,by go_num,rfl,by show 8*i+k+1=min (8*i+(k+1)) m;omega,hown2,abn _ _ _ (by omega),(hB.alloc hbase _).trans hb2⟩
      case measure=>simp [intOf];omega
     obtain rfl:L=m:=(by have:=HL.out;omega);have heq:((L:Int)==(L:Int))=true:=(by simp);cases bv
     ·have hcl:=aeC xs L (8*i+k) Hcl.out hbit;clear hbit;go_wp2;go_roundw;case rel=>exact ⟨k+1,L,A1,c1,by omega,rfl,by go_num,rfl,by show L=min (8*i+(k+1)) L;omega,hown,hcl,hB⟩
      case measure=>simp [intOf];omega
     have hbad:=ady xs L (8*i+k) (by rw [Hlen.out];omega) (by omega) (by omega) hbit;have Hbad:=za hbad;clear hbit hbad;go_wp2;rw [Exit.noGoto_ret]
     go_ret3
     rw [Hbad.out];exact ⟨none,0,rfl,Nat.le_refl _,by simp [maxLen],Reads.none_,hB⟩
    have hk8:k=8:=(by omega);go_wp2;go_roundw;case rel=>
     subst hk8;exact ⟨i+1,L,A1,c1,by omega,rfl,by go_num,rfl,HL,hown,Hcl,hB⟩
    case measure=>simp [intOf];omega
  have hL:L=m:=by have:=HL.out;have:=Uj m;omega
  subst hL;obtain ⟨A',c',hv,h1,h2⟩:=zY hown
  injection hv with hA hn hc'
  subst hA hc';have hie:i=zD L:=by omega
  subst hie;go_wp2_with fail
  with_reducible refine (ail _ _ _ _ h1 h2).mono ?_
  rintro e w' ⟨rfl,rfl⟩;go_wp2;rw [Exit.noGoto_ret]
  go_ret3
  rw [ab2 xs L (by rw [Hlen.out];omega) Hcl.out];have hlen:((zO xs).take L).length=L:=by have:=hown.1;simpa using this
  refine ⟨A1,L,by rw [hlen];rfl,by rw [hlen];exact Nat.le_refl _,by simp only [maxLen];omega,by rw [hlen];exact ze hown,hB⟩
end
section
open Go.RowKit
theorem Z9 (a:Addr):a.add 0=a:=by unfold Addr.add;simp
theorem qc (a:Addr) (j:Nat) (h:0<j):a.add j=⟨a.block,a.off+j,none⟩:=by unfold Addr.add;rw [if_neg (by simpa using Nat.ne_of_gt h)]
def cls (l:List Cl):List Value:=l.flatMap fun c=>[.bool c.1,.int .i64 c.2.1,.string c.2.2]
def VE (l:List Cl):Prop:=∀ c∈l,-9223372036854775808<=c.2.1/\c.2.1<=9223372036854775807/\c.2.2.size<=maxLen
theorem ye {w:World} {B n:Nat} {A:Option Addr} {l:List Cl} (h:Reads w B 3 A n (cls l)):l.length=n:=by
 have:=h.1;rw [cls,yC _ 3 (fun _=>rfl)] at this;omega
theorem ym {w:World} {B n k:Nat} {A:Option Addr} {l:List Cl} (h:Reads w B 3 A n (cls l)) (hk:k<n):∃ ad u m s,A=some ad/\ad.block<B/\l[k]? = some (u,m,s) /\
  w.cell? (ad.add (k*3))=some (.bool u)/\w.cell? ⟨(ad.add (k*3)).block,(ad.add (k*3)).off+1,none⟩=some (.int .i64 m)/\w.cell? ⟨(ad.add (k*3)).block,(ad.add (k*3)).off+2,none⟩=some (.string s):=by
 have hl:=ye h;obtain ⟨ad,e,hb,hc⟩:=h.2 (by omega);have key:∀ j v,[Value.bool l[k].1,.int .i64 l[k].2.1,.string l[k].2.2][j]? = some v->w.cell? ((ad.add (k*3)).add j)=some v:=fun j v hv=>by
  have hj:j<3:=(List.getElem?_eq_some_iff.1 hv).1;rw [qY];exact hc _ _ (by rw [cls,qX _ 3 (fun _=>rfl) l k j l[k] (List.getElem?_eq_getElem (by omega)) hj];exact hv)
 refine ⟨ad,l[k].1,l[k].2.1,l[k].2.2,e,hb,List.getElem?_eq_getElem (by omega),?_,?_,?_⟩
 ·have:=key 0 _ rfl;rwa [Z9] at this
 ·have:=key 1 _ rfl;rwa [qc _ _ (by decide)] at this
 have:=key 2 _ rfl;rwa [qc _ _ (by decide)] at this
theorem U6 (f:FuncId) (g:Cl->Bool) (A:Option Addr) (n c:Nat) (l:List Cl) (w:World) (hr:Reads w w.heap.size 3 A n (cls l)) (hn:n<=1099511627776)
  (hin:∀ args w',(callFunc f args).run Tryz.prog w'=.ok (.enter f args) w')
  (hcall:∀ (u:Bool) (m:Int) (s:ByteArray) (w:World),Calls Tryz.prog f #[.agg #[.bool u,.int .i64 m,.string s]] w fun e w'=>e=.returned (.bool (g (u,m,s)))/\Below w.heap.size w w') :
  Calls Tryz.prog 107 #[.slice A n c,.func (.func f) #[] #[]] w fun e w'=>∃ A' c',e=.returned (.slice A' n c')/\n<=c'/\c'<=maxLen/\w'.ownsRow w.heap.size 4 1 (.slice A' n c') n (bls (l.map g))/\Below w.heap.size w w':=by
 obtain ⟨i0,hi0,hz0,hz1,hz2⟩:=info_parts VB;have Hln:=za (ye hr);have Hr:=za hr;have Hcall:=za hcall;clear hr hcall;go_enter Tryz.func107,Tryz.ntmps107;go_wp2;go_loopw [4,9] (fun v i wr=>∃ (k:Nat) (A1:Option Addr) (c1:Nat),k<=n/\i=.int .i64 (k:Int)/\v=.slice A1 k c1/\k<=c1/\c1<=maxLen/\wr.ownsRow w.heap.size 4 1 (.slice A1 k c1) k (bls ((l.take k).map g))/\Below w.heap.size w wr) (fun _ i _=>n-(intOf i).toNat)
 case atStart=>exact ⟨0,none,0,Nat.zero_le _,rfl,rfl,Nat.le_refl _,by decide,World.ownsRow_nil _ _ _ _,Below.refl _ _⟩
 case round=>
  obtain ⟨k,A1,c1,hk,rfl,rfl,hkc,hcm,hown,hB⟩:=hrel;have Hown:=za hown;have HB:=za hB;clear hown hB;by_cases hlt:k<n
  ·obtain ⟨ad,u,m,s,rfl,hbk,hx,h0,h1,h2⟩:=ym (Hr.out.below HB.out) hlt;have hbase:=HB.out.size;have hs1:k+1<=maxLen:=(by simp only [maxLen];omega);have hs2:(k+1)*1<=70368744177664:=(by omega);have Hx:=za hx;clear hx hbk;(go_wp2_with fail);(with_reducible refine (Hcall.out u m s _).mono ?_);rintro e w1 ⟨rfl,hb1⟩;have hown1:=zd (Hown.out.alloc (.cells #[.bool u,.int .i64 m,.string s] 23)) hb1;have HB1:=za ((HB.out.alloc hbase (.cells #[.bool u,.int .i64 m,.string s] 23)).trans (hb1.mono (by have:=World.size_alloc (w:=wr) (o:=.cells #[.bool u,.int .i64 m,.string s] 23);omega)));have hbase1:=HB1.out.size;clear hb1
   go_wp2_with (at_builtin
                refine zb _ rfl (.tmp 13) (.tmp 17) 145 rfl w.heap.size 4 i0 (.bool false) 1 1 Tryz.underlying145 hi0 hz0 hz1 hz2 rfl (by decide) A1 k c1 _ rfl (hown1.alloc _) _ 1 1 [.bool (g (u,m,s))] rfl (zq _ _ _) (Zg _) hs1 hs2 (by simp;omega) ?_;intro A5 c5 w5 hown5 hb5 hg5 hc5 hm5)
   rw [show bls ((l.take k).map g)++[.bool (g (u,m,s))]=bls ((l.take (k+1)).map g) by rw [List.take_add_one,Hx.out];simp [bls]] at hown5;go_roundw;case rel=>exact ⟨k+1,A5,c5,by omega,by go_num,rfl,hc5,hm5,hown5,(HB1.out.alloc hbase1 _).trans hb5⟩
   case measure=>simp [intOf];omega
  obtain rfl:k=n:=by omega
  have hmap:(l.take k).map g=l.map g:=by rw [List.take_of_length_le (by rw [Hln.out];exact Nat.le_refl _)]
  have Hmap:=za hmap;clear hmap;go_wp2;go_ret;exact ⟨A1,c1,rfl,hkc,hcm,by rw [<-Hmap.out];exact Hown.out,HB.out⟩
theorem acG (f:FuncId) (g:Cl->ByteArray) (A:Option Addr) (n c:Nat) (l:List Cl) (w:World) (hr:Reads w w.heap.size 3 A n (cls l)) (hn:n<=1099511627776)
  (hin:∀ args w',(callFunc f args).run Tryz.prog w'=.ok (.enter f args) w')
  (hcall:∀ (u:Bool) (m:Int) (s:ByteArray) (w:World),Calls Tryz.prog f #[.agg #[.bool u,.int .i64 m,.string s]] w fun e w'=>e=.returned (.string (g (u,m,s)))/\Below w.heap.size w w') :
  Calls Tryz.prog 221 #[.slice A n c,.func (.func f) #[] #[]] w fun e w'=>∃ A' c',e=.returned (.slice A' n c')/\n<=c'/\c'<=maxLen/\w'.ownsRow w.heap.size 9 1 (.slice A' n c') n (txs (l.map g))/\Below w.heap.size w w':=by
 obtain ⟨i0,hi0,hz0,hz1,hz2⟩:=info_parts ZX;have Hln:=za (ye hr);have Hr:=za hr;have Hcall:=za hcall;clear hr hcall;go_enter Tryz.func221,Tryz.ntmps221;go_wp2;go_loopw [4,9] (fun v i wr=>∃ (k:Nat) (A1:Option Addr) (c1:Nat),k<=n/\i=.int .i64 (k:Int)/\v=.slice A1 k c1/\k<=c1/\c1<=maxLen/\wr.ownsRow w.heap.size 9 1 (.slice A1 k c1) k (txs ((l.take k).map g))/\Below w.heap.size w wr) (fun _ i _=>n-(intOf i).toNat)
 case atStart=>exact ⟨0,none,0,Nat.zero_le _,rfl,rfl,Nat.le_refl _,by decide,World.ownsRow_nil _ _ _ _,Below.refl _ _⟩
 case round=>
  obtain ⟨k,A1,c1,hk,rfl,rfl,hkc,hcm,hown,hB⟩:=hrel;have Hown:=za hown;have HB:=za hB;clear hown hB;by_cases hlt:k<n
  ·obtain ⟨ad,u,m,s,rfl,hbk,hx,h0,h1,h2⟩:=ym (Hr.out.below HB.out) hlt;have hbase:=HB.out.size;have hs1:k+1<=maxLen:=(by simp only [maxLen];omega);have hs2:(k+1)*16<=70368744177664:=(by omega);have Hx:=za hx;clear hx hbk;(go_wp2_with fail);(with_reducible refine (Hcall.out u m s _).mono ?_);rintro e w1 ⟨rfl,hb1⟩;have hown1:=zd (Hown.out.alloc (.cells #[.bool u,.int .i64 m,.string s] 23)) hb1;have HB1:=za ((HB.out.alloc hbase (.cells #[.bool u,.int .i64 m,.string s] 23)).trans (hb1.mono (by have:=World.size_alloc (w:=wr) (o:=.cells #[.bool u,.int .i64 m,.string s] 23);omega)));have hbase1:=HB1.out.size;clear hb1
   go_wp2_with (at_builtin
                refine zb _ rfl (.tmp 13) (.tmp 17) 240 rfl w.heap.size 9 i0 (.string ⟨#[]⟩) 1 16 Tryz.underlying240 hi0 hz0 hz1 hz2 rfl (by decide) A1 k c1 _ rfl (hown1.alloc _) _ 1 1 [.string (g (u,m,s))] rfl (zq _ _ _) (yK _) hs1 hs2 (by simp;omega) ?_;intro A5 c5 w5 hown5 hb5 hg5 hc5 hm5)
   rw [show txs ((l.take k).map g)++[.string (g (u,m,s))]=txs ((l.take (k+1)).map g) by rw [List.take_add_one,Hx.out];simp [txs]] at hown5;go_roundw;case rel=>exact ⟨k+1,A5,c5,by omega,by go_num,rfl,hc5,hm5,hown5,(HB1.out.alloc hbase1 _).trans hb5⟩
   case measure=>simp [intOf];omega
  obtain rfl:k=n:=by omega
  have hmap:(l.take k).map g=l.map g:=by rw [List.take_of_length_le (by rw [Hln.out];exact Nat.le_refl _)]
  have Hmap:=za hmap;clear hmap;go_wp2;go_ret;exact ⟨A1,c1,rfl,hkc,hcm,by rw [<-Hmap.out];exact Hown.out,HB.out⟩
theorem afp (u:Bool) (m:Int) (s:ByteArray) (w:World):Calls Tryz.prog 108 #[.agg #[.bool u,.int .i64 m,.string s]] w fun e w'=>e=.returned (.bool (!u))/\Below w.heap.size w w':=by
 go_enter Tryz.func108,Tryz.ntmps108;go_wp2;go_ret;exact ⟨rfl,(Below.refl _ _).alloc (Nat.le_refl _) _⟩
theorem agd (u:Bool) (m:Int) (s:ByteArray) (w:World):Calls Tryz.prog 219 #[.agg #[.bool u,.int .i64 m,.string s]] w fun e w'=>e=.returned (.bool (m==1))/\Below w.heap.size w w':=by
 go_enter Tryz.func219,Tryz.ntmps219;go_wp2;go_ret;exact ⟨rfl,(Below.refl _ _).alloc (Nat.le_refl _) _⟩
theorem acL (u:Bool) (m:Int) (s:ByteArray) (w:World):Calls Tryz.prog 222 #[.agg #[.bool u,.int .i64 m,.string s]] w fun e w'=>e=.returned (.string s)/\Below w.heap.size w w':=by
 go_enter Tryz.func222,Tryz.ntmps222;go_wp2;go_ret;exact ⟨rfl,(Below.refl _ _).alloc (Nat.le_refl _) _⟩
theorem acH (A:Option Addr) (n c:Nat) (l:List Cl) (w:World) (hr:Reads w w.heap.size 3 A n (cls l)) (hn:n<=1099511627776) :
  Calls Tryz.prog 107 #[.slice A n c,.func (.func 108) #[] #[]] w fun e w'=>∃ A' c',e=.returned (.slice A' n c')/\n<=c'/\c'<=maxLen/\w'.ownsRow w.heap.size 4 1 (.slice A' n c') n (bls (l.map fun c => !c.1))/\Below w.heap.size w w':=
 U6 108 (fun c => !c.1) A n c l w hr hn (fun args w'=>zm Tryz.func108 (by kernel_rfl) (by kernel_rfl) args w') afp
theorem ae7 (A:Option Addr) (n c:Nat) (l:List Cl) (w:World) (hr:Reads w w.heap.size 3 A n (cls l)) (hn:n<=1099511627776) :
  Calls Tryz.prog 107 #[.slice A n c,.func (.func 219) #[] #[]] w fun e w'=>∃ A' c',e=.returned (.slice A' n c')/\n<=c'/\c'<=maxLen/\w'.ownsRow w.heap.size 4 1 (.slice A' n c') n (bls (l.map fun c=>c.2.1==1))/\Below w.heap.size w w':=
 U6 219 (fun c=>c.2.1==1) A n c l w hr hn (fun args w'=>zm Tryz.func219 (by kernel_rfl) (by kernel_rfl) args w') agd
theorem acI (A:Option Addr) (n c:Nat) (l:List Cl) (w:World) (hr:Reads w w.heap.size 3 A n (cls l)) (hn:n<=1099511627776) :
  Calls Tryz.prog 221 #[.slice A n c,.func (.func 222) #[] #[]] w fun e w'=>∃ A' c',e=.returned (.slice A' n c')/\n<=c'/\c'<=maxLen/\w'.ownsRow w.heap.size 9 1 (.slice A' n c') n (txs (l.map fun c=>c.2.2))/\Below w.heap.size w w':=
 acG 222 (fun c=>c.2.2) A n c l w hr hn (fun args w'=>zm Tryz.func222 (by kernel_rfl) (by kernel_rfl) args w') acL
end
end Go.Proofs.YtjpjalmilfgckaaGreatDoor
