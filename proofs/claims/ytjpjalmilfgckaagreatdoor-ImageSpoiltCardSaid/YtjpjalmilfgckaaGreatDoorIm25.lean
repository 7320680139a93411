/- Part 25 of the walks, merged: each text under its own heading. Conditions: none of its own; each lemma states what it asks. -/
import Derived.Test.YtjpjalmilfgckaaGreatDoorIm7
import Derived.Test.YtjpjalmilfgckaaGreatDoorIm22
import Derived.Test.YtjpjalmilfgckaaGreatDoorIm23
import Derived.Test.YtjpjalmilfgckaaGreatDoorIm24
import Derived.WalkMore
import Derived.ScopeJumps
set_option maxRecDepth 100000
set_option linter.unusedVariables false
set_option linter.unusedSimpArgs false
namespace Go.Proofs.YtjpjalmilfgckaaGreatDoor
open Go.RowKit
theorem reads_not2 {w:World} {B n g:Nat} {A:Option Addr} {l:List UInt8} {t:TypeId} {cs:Array Value} (h:Reads w B 1 A n (u8s l)) (hb:Blk w g t cs) (hc:∀ (i:Nat) (b:Int),cs[i]? ≠ some (.int .u8 b)) (hn:0<n):∀ ad,A=some ad->ad.block≠g:=by
 intro ad hA hg
 obtain ⟨ad2,hA2,hlt,hcell⟩:=h.2 hn
 rw [hA] at hA2
 cases hA2
 have hl:=reads_len h
 have h0:=hcell 0 (.int .u8 ((l[0]'(by omega)).toNat:Int)) (by simp [u8s,show 0<l.length by omega])
 unfold Blk at hb
 have hz:(ad.add 0).block=g:=by rw [block_of_add,hg]
 simp only [World.cell?,hz,hb] at h0
 split at h0
 ·cases h0
 exact hc _ _ h0
theorem PRd.set_ {w:World} {g k i p e:Nat} {xs:List UInt8} {t:TypeId} {cs:Array Value} (h:PRd w g xs p e) (hb:Blk w k t cs) (hk:k≠g) (hc:∀ (i:Nat) (b:Int),cs[i]? ≠ some (.int .u8 b)) (v:Value):PRd (w.setCell ⟨k,i,none⟩ v) g xs p e:=by
 obtain ⟨h0,A,c,h1,h2,h3,h4⟩:=h
 refine ⟨h0,A,c,h1.far (p:=⟨k,i,none⟩) (Ne.symm hk) v,?_,h3,h4⟩
 by_cases hn:0<xs.length-p
 ·exact h2.setCellFar (p:=⟨k,i,none⟩) (reads_not2 h2 hb hc hn) v
 exact ⟨h2.1,fun hh=>absurd hh hn⟩
theorem pvar_is {g p e n p' e':Nat} {xs:List UInt8} {w:World} (h:PRd w g xs p e) (hl:xs.length<=1000000000) (hv:varA xs p e=(n,p',e')) :
  Calls Tryz.prog 142 #[.pointer (some ⟨g,0,none⟩)] w (Asked g xs (.int .u64 (n:Int)) p' e' w):=by
 have:=pvar_any g xs p e w h (by omega)
 rwa [hv] at this
theorem ptext_is {g p e p' e':Nat} {s:ByteArray} {most:Int} {xs:List UInt8} {w:World} (h:PRd w g xs p e) (hl:xs.length<=1000000000) (hm:most<=9223372036854775807) (hv:textA xs p e most=(s,p',e')) :
  Calls Tryz.prog 144 #[.pointer (some ⟨g,0,none⟩),.int .i64 most] w (Asked g xs (.string s) p' e' w):=by
 have:=ptext_any g xs p e most w h (by omega) hm
 rwa [hv] at this
theorem blk_grown2 {w w':World} {g k:Nat} {t:TypeId} {cs:Array Value} (h:Blk w g t cs) (hg:w.grownBy w' (some k)) (hne:g≠k):Blk w' g t cs:=(hg.block g h.lt (by simp;omega)).trans h
theorem PRd.under2 {w w':World} {g B p e:Nat} {xs:List UInt8} (h:PRd w g xs p e) (hb:Below B w w') (hg:g<B) (hB:B<=w.heap.size):PRd w' g xs p e:=by
 obtain ⟨h0,A,c,h1,h2,h3,h4⟩:=h
 refine ⟨h0,A,c,h1.below hb hg,⟨h2.1,fun hn=>?_⟩,h3,h4⟩
 obtain ⟨ad,e,hlt,hc⟩:=h2.2 hn
 have:=h3 hn ad e
 exact ⟨ad,e,Nat.lt_of_lt_of_le hlt hb.size,fun j u hu=>(hb.cell (by rw [block_of_add];omega)).trans (hc j u hu)⟩
structure ParK (w:World) (g:Nat) (bx cs:Array Value) (xs:List UInt8) (p e:Nat) (wr:World):Prop where
 below:Below w.heap.size w wr
 box:Blk wr w.heap.size 48 bx
 st:Blk wr (w.heap.size+1) 51 cs
 rd:PRd wr g xs p e
 lt:w.heap.size+1<g
section
variable {w wr w':World} {g p e p' e':Nat} {bx cs:Array Value} {xs:List UInt8}
theorem ParK.up (h:ParK w g bx cs xs p e wr) (hb:Below (g+1) wr w'):ParK w g bx cs xs p e w':=
 ⟨h.below.trans (hb.mono (by have:=h.lt;omega)),(hb.block _ (by have:=h.lt;omega)).trans h.box,(hb.block _ (by have:=h.lt;omega)).trans h.st,h.rd.under2 hb (Nat.lt_succ_self _) h.rd.lt,h.lt⟩
theorem ParK.on (h:ParK w g bx cs xs p e wr) (hb:Below wr.heap.size wr w'):ParK w g bx cs xs p e w':=h.up (hb.mono h.rd.lt)
theorem ParK.rdblk (h:ParK w g bx cs xs p e wr):∃ cs,Blk wr g 235 cs:=by
 obtain ⟨_,A,c,h1,-⟩:=h.rd
 exact ⟨_,h1⟩
theorem ParK.ask (h:ParK w g bx cs xs p e wr) {v:Value} {r:Ending} (ha:Asked g xs v p' e' wr r w'):r=.returned v/\ParK w g bx cs xs p' e' w'/\wr.grownBy w' (some g):=
 ⟨ha.1,⟨h.below.grown ha.2.1 h.below.size (fun k hk=>by cases hk;have:=h.lt;omega),blk_grown2 h.box ha.2.1 (by have:=h.lt;omega),blk_grown2 h.st ha.2.1 (by have:=h.lt;omega),ha.2.2,h.lt⟩,ha.2.1⟩
theorem ParK.set_ (h:ParK w g bx cs xs p e wr) (hc:∀ (i:Nat) (b:Int),cs[i]? ≠ some (.int .u8 b)) (i:Nat) (u:Value):ParK w g bx (cs.setIfInBounds i u) xs p e (wr.setCell ⟨w.heap.size+1,i,none⟩ u):=
 ⟨h.below.setCell (p:=⟨w.heap.size+1,i,none⟩) (by show w.heap.size<=w.heap.size+1;omega) u,h.box.far (p:=⟨w.heap.size+1,i,none⟩) (by show w.heap.size≠w.heap.size+1;omega) u,h.st.set_ i u,h.rd.set_ h.st (by have:=h.lt;omega) hc u,h.lt⟩
end
theorem st_nou8 (a b:Int) (A B C:Option Addr) (n m k c d f:Nat):∀ (i:Nat) (x:Int),(#[Value.int .i64 a,.int .i64 b,.slice A n c,.slice B m d,.slice C k f])[i]? ≠ some (.int .u8 x):=by
 intro i x
 rcases i with _ | _ | _ | _ | _ | i<;>simp
theorem str_bytes2 {P:Program} (w:World) (src dst e:TypeId) (s:ByteArray) (hs:P.underlying src=some .string) (hd:P.underlying dst=some (.slice e)) (he:P.underlying e=some (.int .u8)) (hz:s.size<=maxLen) :
  ∃ (A:Option Addr) (c:Nat) (w1:World),(convert src dst (.string s)).run P w=.ok (.slice A s.size c) w1/\Reads w1 w1.heap.size 1 A s.size (u8s s.data.toList)/\s.size<=c/\c<=maxLen/\Below w.heap.size w w1/\∀ ad,A=some ad->w.heap.size<=ad.block:=by
 obtain ⟨A,c,w1,h1,h2,h3,h4,h5⟩:=str_bytes w src dst e s hs hd he hz
 have h6:=h1
 rw [Lib.run_convert_string_bytes w src dst e s hs hd he] at h6
 injection h6 with h7 h8
 injection h7 with h9
 exact ⟨A,c,w1,h1,h2,h3,h4,h5,fun ad hA=>by rw [<-h9] at hA;cases hA;exact Nat.le_refl _⟩
def ParP (r:Got St) (w:World) (e:Ending) (w':World):Prop:=
 Below w.heap.size w w'/\match r with
  | .ok st=>∃ MA mn mc RA rn rc LA ln lc,e=.returned (.tuple #[.agg #[.int .i64 st.1,.int .i64 st.2.1,.slice MA mn mc,.slice RA rn rc,.slice LA ln lc],.nilIface])/\w'.ownsRow w.heap.size 90 2 (.slice MA mn mc) mn (mks st.2.2.1)/\ItemsOwn w' w.heap.size RA rn rc st.2.2.2.1/\Reads w' w'.heap.size 1 LA ln (u8s st.2.2.2.2)/\(∀ ad,LA=some ad->w.heap.size<=ad.block)/\(ln<=lc/\lc<=maxLen)
  | .error er=>e=.returned (.tuple #[.agg #[.int .i64 0,.int .i64 0,.slice none 0 0,.slice none 0 0,.slice none 0 0],.iface 164 (.agg #[.int .i64 (er:Int)])])/\er≠0
end Go.Proofs.YtjpjalmilfgckaaGreatDoor
namespace Go.Proofs.YtjpjalmilfgckaaGreatDoor
open Go.RowKit
theorem i64wrap_toI (n:Nat):IntKind.i64.wrap (n:Int)=toI n:=by
 unfold toI wrap64
 simp [IntKind.wrap,IntKind.signed,IntKind.bits]
 split<;>omega
theorem markI_next {xs:List UInt8} {s0:MkS} {k mp me tp te vn vp ve:Nat} {ml:List Mk} {ts:ByteArray} {ov:Int} (h:markI xs s0 k=(ml,mp,me)) (ht:textA xs mp me 32=(ts,tp,te)) (hv:varA xs tp te=(vn,vp,ve)) (ho:toI vn=ov):markI xs s0 (k+1)=(ml++[(ts,ov)],vp,ve):=by
 show markA xs (markI xs s0 k)=_
 rw [h]
 unfold markA
 simp only [ht,hv,ho]
theorem textA_le (xs:List UInt8) (p e:Nat) {most:Int} (h0:0<=most):((textA xs p e most).1.size:Int)<=most:=by
 unfold textA
 split
 ·exact h0
 split
 ·exact h0
 rename_i s n h
 exact (imgT_ok h).1
theorem textA_le_of {xs:List UInt8} {p e p' e':Nat} {most:Int} {s:ByteArray} (h0:0<=most) (h:textA xs p e most=(s,p',e')):(s.size:Int)<=most:=by
 have:=textA_le xs p e h0
 rwa [h] at this
theorem markI_ok (xs:List UInt8) (p e:Nat):∀ k,MkOk (markI xs ([],p,e) k).1
 | 0=>fun m hm=>by cases hm
 | k+1=>fun m hm=>by
  rcases List.mem_append.1 (show m∈(markI xs ([],p,e) k).1++[_] from hm) with h | h
  ·exact markI_ok xs p e k m h
  rw [List.mem_singleton] at h
  subst h
  have:=textA_le xs (markI xs ([],p,e) k).2.1 (markI xs ([],p,e) k).2.2 (most:=32) (by decide)
  exact ⟨by simp only [maxLen];omega,toI_in _⟩
section
variable {s:Sc} {xs:List UInt8} {v q:Int} {ms:List Mk} {p e dp de lp le er:Nat} {ds ls:ByteArray} {b:Ba}
theorem parseT_err (hd:textA xs p e 2147483647=(ds,dp,de)) (hb:decB s.1 ds.data.toList=.error er):parseT s xs v q ms p e=.error 280:=by
 unfold parseT
 rw [hd]
 simp only [hb]
theorem parseT_no (hd:textA xs p e 2147483647=(ds,dp,de)) (hb:decB s.1 ds.data.toList=.ok b) (hn:¬(b.1=v/\b.2.1=q)):parseT s xs v q ms p e=.error 280:=by
 unfold parseT
 rw [hd]
 simp only [hb]
 rw [if_neg hn]
theorem parseT_yes (hd:textA xs p e 2147483647=(ds,dp,de)) (hb:decB s.1 ds.data.toList=.ok b) (hn:b.1=v/\b.2.1=q) (hl:textA xs dp de 1048576=(ls,lp,le)) :
  parseT s xs v q ms p e=if endE (xs.length-lp) le=0/\stB s (v,q,ms,b.2.2,ls.data.toList)=true then .ok (v,q,ms,b.2.2,ls.data.toList) else .error 280:=by
 unfold parseT
 rw [hd]
 simp only [hb]
 rw [if_pos hn]
 simp only [hl]
end
theorem setCell_id {w:World} {g i:Nat} {t:TypeId} {cs:Array Value} {v:Value} (h:Blk w g t cs) (hv:cs[i]? = some v):w.setCell ⟨g,i,none⟩ v=w:=by
 have hs:cs.setIfInBounds i v=cs:=by
  obtain ⟨hi,rfl⟩:=Array.getElem?_eq_some_iff.1 hv
  apply Array.ext_getElem?
  intro k
  rw [Array.getElem?_setIfInBounds]
  split
  ·rename_i hk
   subst hk
   rw [Array.getElem?_eq_getElem hi]
  rfl
 have hh:(w.setCell ⟨g,i,none⟩ v).heap=w.heap:=by
  apply Array.ext_getElem?
  intro k
  by_cases hk:k=g
  ·subst hk
   have:=h.set_ i v
   rw [hs] at this
   exact this.trans h.symm
  exact Below.heap_setCell w ⟨g,i,none⟩ v k hk
 show ({ w with heap:=(w.setCell ⟨g,i,none⟩ v).heap }:World)=w
 rw [hh]
theorem ItemsOwn.grown3 {w w':World} {base g n c:Nat} {A:Option Addr} {l:List It} {cs:Array Value} (h:ItemsOwn w base A n c l) (hb:Blk w g 235 cs) (hg:w.grownBy w' (some g)):ItemsOwn w' base A n c l:=by
 obtain ⟨hs,g1,g2⟩:=h
 exact ⟨hs,own_grown g1 hb (by decide) hg,g2.1,fun j q it h3 h4=>own_grown (g2.2 j q it h3 h4) hb (by decide) hg⟩
theorem reads_setT {w:World} {n k i:Nat} {A:Option Addr} {l:List UInt8} {t:TypeId} {cs:Array Value} (h:Reads w w.heap.size 1 A n (u8s l)) (hb:Blk w k t cs) (hc:∀ (i:Nat) (b:Int),cs[i]? ≠ some (.int .u8 b)) (v:Value):Reads (w.setCell ⟨k,i,none⟩ v) (w.setCell ⟨k,i,none⟩ v).heap.size 1 A n (u8s l):=by
 by_cases hn:0<n
 ·exact h.setCellFar (p:=⟨k,i,none⟩) (reads_not2 h hb hc hn) v
 exact ⟨h.1,fun hh=>absurd hh hn⟩
end Go.Proofs.YtjpjalmilfgckaaGreatDoor
namespace Go.Proofs.YtjpjalmilfgckaaGreatDoor
open Go.RowKit
@[go_sem] theorem jump_ret {l:Nat} {J:Act->World->Prop} {Q:Exit->Act->World->Prop} {a:Act} {w:World}:Exit.jump l J Q .ret a w=Q .ret a w:=rfl
@[go_sem] theorem jump_normal {l:Nat} {J:Act->World->Prop} {Q:Exit->Act->World->Prop} {a:Act} {w:World}:Exit.jump l J Q .normal a w=Q .normal a w:=rfl
theorem wp_scope_ahead {P:Program} {a:Act} {w:World} {Q:Exit->Act->World->Prop} {c rest:Code} (l:Nat) (hf:findLabel c l=some rest)
  (first:c.wp P (Exit.jump l (fun a w=>rest.wp P (Exit.noGoto Q) a w) Q) a w):(Code.scope c).wp P Q a w:=
 wp_scope_jumps l (fun a w=>rest.wp P (Exit.noGoto Q) a w) (fun _ _=>0) hf first (fun a w hJ=>wp_mono hJ fun e a w h=>by cases e<;>first | exact h | exact h.elim)
theorem imgE_no2 {s:Sc} {st:St} (h:¬stB s st=true):imgE s st=2:=by unfold imgE;rw [if_neg h]
set_option maxHeartbeats 8000000 in
theorem parse_any (CA:Option Addr) (cn cc:Nat) (KA:Option Addr) (kn kc:Nat) (s:Sc) (B:Option Addr) (m cb:Nat) (xs:List UInt8) (w:World) (h:ScAt w CA cn KA kn s) (hcn:cn<=1000000) (hkn:kn<=1000000) (hok:ScOk s) (hx:Reads w w.heap.size 1 B m (u8s xs)) (hm:m<=1000000000) (hT:Tab2 w.heap.size w) (hE:ErrT w) :
  Calls Tryz.prog 84 #[.agg #[.slice CA cn cc,.slice KA kn kc],.slice B m cb] w (ParP (parseI s xs) w):=by
 obtain ⟨m0,hm0,hm1,hm2,hm3⟩:=info_parts mark_info
 obtain ⟨W,hW1⟩:∃ W,(w.alloc (.cells #[.slice CA cn cc,.slice KA kn kc] 48)).alloc (.cells #[.int .i64 0,.int .i64 0,.slice none 0 0,.slice none 0 0,.slice none 0 0] 51)=W:=⟨_,rfl⟩
 have HWs:=Lib.hid (show W.heap.size=w.heap.size+2 by rw [<-hW1];simp)
 have HB:=Lib.hid (show Below w.heap.size w W by rw [<-hW1];exact bal (bal (Below.refl _ _) _) _)
 have BS:=Lib.hid (show Blk W w.heap.size 48 #[.slice CA cn cc,.slice KA kn kc] by rw [<-hW1];exact (Blk.new w _ _).alloc _)
 have BT:=Lib.hid (show Blk W (w.heap.size+1) 51 #[.int .i64 0,.int .i64 0,.slice none 0 0,.slice none 0 0,.slice none 0 0] by rw [<-hW1];exact Blk.new' _ _ _ _ (by simp))
 have HSc:=Lib.hid h
 have HT:=Lib.hid hT
 have HE:=Lib.hid hE
 have Hok:=Lib.hid hok
 have HX:=Lib.hid (hx.on HB.out)
 have hxl:xs.length<=1000000000:=by rw [reads_len hx];exact hm
 clear h hx hT hE hok
 go_enter Tryz.func84,Tryz.ntmps84
 go_wp2
 refine wp_scope_ahead 0 rfl ?_
 go_wp2_with fail
 try rw [hW1]
 clear hW1
 with_reducible refine (pnew_any B m cb xs W HX.out (by omega)).mono ?_
 rintro e w1 ⟨g,rfl,hg,hrd,hb⟩
 have HK:=Lib.hid (show ParK w g #[.slice CA cn cc,.slice KA kn kc] #[.int .i64 0,.int .i64 0,.slice none 0 0,.slice none 0 0,.slice none 0 0] xs 0 0 w1 from ⟨bon HB.out hb,BS.out.on hb,BT.out.on hb,hrd,by have:=HWs.out;omega⟩)
 have Hgl:=Lib.hid HK.out.lt
 clear hg hrd hb HX BS BT HB HWs
 obtain ⟨⟨n1,p1,e1⟩,hv1⟩:∃ V,v1 xs=V:=⟨_,rfl⟩
 obtain ⟨⟨n2,p2,e2⟩,hv2⟩:∃ V,v2 xs=V:=⟨_,rfl⟩
 obtain ⟨⟨n3,p3,e3⟩,hv3⟩:∃ V,v3 xs=V:=⟨_,rfl⟩
 have Hq1:=Lib.hid (show varA xs 0 0=(n1,p1,e1) from hv1)
 have Hq2:=Lib.hid (show varA xs p1 e1=(n2,p2,e2) by have:=hv2;unfold v2 at this;rwa [hv1] at this)
 have Hq3:=Lib.hid (show varA xs p2 e2=(n3,p3,e3) by have:=hv3;unfold v3 at this;rwa [hv2] at this)
 have HPI:=Lib.hid (show parseI s xs=if e3=0/\n3<=16 then parseT s xs (toI n1) (toI n2) (markI xs ([],p3,e3) n3).1 (markI xs ([],p3,e3) n3).2.1 (markI xs ([],p3,e3) n3).2.2 else .error 280 by unfold parseI;rw [hv1,hv2,hv3])
 clear hv1 hv2 hv3
 go_wp2_with fail
 with_reducible refine (pvar_is HK.out.rd hxl Hq1.out).mono ?_
 rintro e w2 ha
 obtain ⟨rfl,hk,-⟩:=HK.out.ask ha
 have HK:=Lib.hid hk
 clear ha hk
 have t0:=HK.out.st.cell 0
 have f0:=HK.out.st.frozen 0
 have HK2:=HK.out.set_ (st_nou8 _ _ _ _ _ _ _ _ _ _ _) 0 (.int .i64 (wrap64 (n1:Int)))
 simp only [List.setIfInBounds_toArray,List.set_cons_succ,List.set_cons_zero] at HK2
 have HK:=Lib.hid HK2
 clear HK2
 go_wp2_with fail
 clear t0 f0
 obtain ⟨i1,hi1⟩:∃ i1,toI n1=i1:=⟨_,rfl⟩
 rw [show wrap64 (n1:Int)=i1 from hi1] at HK ⊢
 rw [hi1] at HPI
 have Hi1:=Lib.hid hi1
 clear hi1
 generalize w2.setCell ⟨w.heap.size+1,0,none⟩ (.int .i64 i1)=w3 at *
 with_reducible refine (pvar_is HK.out.rd hxl Hq2.out).mono ?_
 rintro e w4 ha
 obtain ⟨rfl,hk,-⟩:=HK.out.ask ha
 have HK:=Lib.hid hk
 clear ha hk
 have t0:=HK.out.st.cell 1
 have f0:=HK.out.st.frozen 1
 have HK2:=HK.out.set_ (st_nou8 _ _ _ _ _ _ _ _ _ _ _) 1 (.int .i64 (wrap64 (n2:Int)))
 simp only [List.setIfInBounds_toArray,List.set_cons_succ,List.set_cons_zero] at HK2
 have HK:=Lib.hid HK2
 clear HK2
 go_wp2_with fail
 clear t0 f0
 obtain ⟨i2,hi2⟩:∃ i2,toI n2=i2:=⟨_,rfl⟩
 rw [show wrap64 (n2:Int)=i2 from hi2] at HK ⊢
 rw [hi2] at HPI
 have Hi2:=Lib.hid hi2
 clear hi2
 generalize w4.setCell ⟨w.heap.size+1,1,none⟩ (.int .i64 i2)=w5 at *
 with_reducible refine (pvar_is HK.out.rd hxl Hq3.out).mono ?_
 rintro e w6 ha
 obtain ⟨rfl,hk,-⟩:=HK.out.ask ha
 have HK:=Lib.hid hk
 clear ha hk Hq1 Hq2
 have BI:=Lib.hid (Blk.new w6 30 #[.int .i64 0,.int .i64 0,.slice none 0 0])
 obtain ⟨b8,hb8⟩:∃ b8,b8=w6.heap.size:=⟨_,rfl⟩
 have Hb8:=Lib.hid (show g+1<=b8 by rw [hb8];exact HK.out.rd.lt)
 rw [<-hb8] at BI
 have HK:=Lib.hid (HK.out.on (bal (Below.refl w6.heap.size w6) (.cells #[.int .i64 0,.int .i64 0,.slice none 0 0] 30)))
 go_wp2_with fail
 rw [<-hb8]
 clear hb8
 generalize w6.alloc (.cells #[.int .i64 0,.int .i64 0,.slice none 0 0] 30)=w7 at *
 with_reducible refine (perr_any g xs p3 e3 _ HK.out.rd).mono ?_
 rintro e w8 ⟨rfl,rfl⟩
 by_cases hgo:e3=0/\n3<=16
 case neg=>
  replace HPI:=Lib.hid (show parseI s xs=.error 280 by rw [HPI.out,if_neg hgo])
  by_cases he3:e3=0
  ·have e1':((e3:Int)==0)=true:=by simp [he3]
   have e2':decide ((n3:Int)<=16)=false:=by simp;omega
   clear hgo he3
   go_wp2_with fail
   with_reducible refine (ineed_no 280 _).mono ?_
   rintro e w9 ⟨rfl,rfl⟩
   have t0:=HK.out.st.cell 0
   have t1:=HK.out.st.cell 1
   have t2:=HK.out.st.cell 2
   have t3:=HK.out.st.cell 3
   have t4:=HK.out.st.cell 4
   have f0:=HK.out.st.frozen 0
   have f1:=HK.out.st.frozen 1
   have f2:=HK.out.st.frozen 2
   have f3:=HK.out.st.frozen 3
   have f4:=HK.out.st.frozen 4
   go_wp2
   go_step3
   refine ⟨rfl,?_⟩
   show Code.wp _ _ _ _ _
   go_wp2
   rw [Exit.noGoto_ret]
   clear t0 t1 t2 t3 t4 f0 f1 f2 f3 f4
   have hrf:=((((HK.out.st.set_ 0 (.int .i64 0)).set_ 1 (.int .i64 0)).set_ 2 (.slice none 0 0)).set_ 3 (.slice none 0 0)).set_ 4 (.slice none 0 0)
   simp only [List.setIfInBounds_toArray,List.set_cons_zero,List.set_cons_succ] at hrf
   have r0:=hrf.cell 0
   have r1:=hrf.cell 1
   have r2:=hrf.cell 2
   have r3:=hrf.cell 3
   have r4:=hrf.cell 4
   have hlow:w.heap.size<=w.heap.size+1:=by omega
   have hbf:=((((HK.out.below.setCell (p:=⟨w.heap.size+1,0,none⟩) hlow (.int .i64 0)).setCell (p:=⟨w.heap.size+1,1,none⟩) hlow (.int .i64 0)).setCell (p:=⟨w.heap.size+1,2,none⟩) hlow (.slice none 0 0)).setCell (p:=⟨w.heap.size+1,3,none⟩) hlow (.slice none 0 0)).setCell (p:=⟨w.heap.size+1,4,none⟩) hlow (.slice none 0 0)
   refine bodyPost_ret (v:=.tuple #[.agg #[.int .i64 0,.int .i64 0,.slice none 0 0,.slice none 0 0,.slice none 0 0],.iface 164 (.agg #[.int .i64 280])]) (by simp [results,Tryz.results84,go_sem,r0,r1,r2,r3,r4]) rfl ?_
   rw [HPI.out]
   exact ⟨hbf,rfl,by decide⟩
  have e1':((e3:Int)==0)=false:=by simp;omega
  clear hgo he3
  go_wp2_with fail
  with_reducible refine (ineed_no 280 _).mono ?_
  rintro e w9 ⟨rfl,rfl⟩
  have t0:=HK.out.st.cell 0
  have t1:=HK.out.st.cell 1
  have t2:=HK.out.st.cell 2
  have t3:=HK.out.st.cell 3
  have t4:=HK.out.st.cell 4
  have f0:=HK.out.st.frozen 0
  have f1:=HK.out.st.frozen 1
  have f2:=HK.out.st.frozen 2
  have f3:=HK.out.st.frozen 3
  have f4:=HK.out.st.frozen 4
  go_wp2
  go_step3
  refine ⟨rfl,?_⟩
  show Code.wp _ _ _ _ _
  go_wp2
  rw [Exit.noGoto_ret]
  clear t0 t1 t2 t3 t4 f0 f1 f2 f3 f4
  have hrf:=((((HK.out.st.set_ 0 (.int .i64 0)).set_ 1 (.int .i64 0)).set_ 2 (.slice none 0 0)).set_ 3 (.slice none 0 0)).set_ 4 (.slice none 0 0)
  simp only [List.setIfInBounds_toArray,List.set_cons_zero,List.set_cons_succ] at hrf
  have r0:=hrf.cell 0
  have r1:=hrf.cell 1
  have r2:=hrf.cell 2
  have r3:=hrf.cell 3
  have r4:=hrf.cell 4
  have hlow:w.heap.size<=w.heap.size+1:=by omega
  have hbf:=((((HK.out.below.setCell (p:=⟨w.heap.size+1,0,none⟩) hlow (.int .i64 0)).setCell (p:=⟨w.heap.size+1,1,none⟩) hlow (.int .i64 0)).setCell (p:=⟨w.heap.size+1,2,none⟩) hlow (.slice none 0 0)).setCell (p:=⟨w.heap.size+1,3,none⟩) hlow (.slice none 0 0)).setCell (p:=⟨w.heap.size+1,4,none⟩) hlow (.slice none 0 0)
  refine bodyPost_ret (v:=.tuple #[.agg #[.int .i64 0,.int .i64 0,.slice none 0 0,.slice none 0 0,.slice none 0 0],.iface 164 (.agg #[.int .i64 280])]) (by simp [results,Tryz.results84,go_sem,r0,r1,r2,r3,r4]) rfl ?_
  rw [HPI.out]
  exact ⟨hbf,rfl,by decide⟩
 obtain ⟨he3,hn3⟩:=hgo
 subst he3
 replace HPI:=Lib.hid (show parseI s xs=parseT s xs i1 i2 (markI xs ([],p3,0) n3).1 (markI xs ([],p3,0) n3).2.1 (markI xs ([],p3,0) n3).2.2 by rw [HPI.out,if_pos ⟨rfl,hn3⟩])
 have e2':decide ((n3:Int)<=16)=true:=by simp;omega
 have HM0:=Lib.hid (World.ownsRow_nil w7 (g+1) 90 2)
 go_wp2_with fail
 with_reducible refine (ineed_yes 280 _).mono ?_
 rintro e w9 ⟨rfl,rfl⟩
 clear e2'
 go_wp2
 go_loopw [34] (fun kv wr=>∃ (k:Nat) (A4:Option Addr) (c4:Nat),k<=n3/\kv=.int .u64 (k:Int)/\Hid (ParK w g #[.slice CA cn cc,.slice KA kn kc] #[.int .i64 i1,.int .i64 i2,.slice A4 k c4,.slice none 0 0,.slice none 0 0] xs (markI xs ([],p3,0) k).2.1 (markI xs ([],p3,0) k).2.2 wr)/\Hid (wr.ownsRow (g+1) 90 2 (.slice A4 k c4) k (mks (markI xs ([],p3,0) k).1))/\Hid (Blk wr b8 30 #[.int .i64 0,.int .i64 0,.slice none 0 0])) (fun kv _=>n3-(intOf kv).toNat)
 case atStart=>exact ⟨0,none,0,Nat.zero_le _,rfl,HK,HM0,BI⟩
 case round=>
  clear HK HM0 BI
  obtain ⟨k,A4,c4,hk,rfl,HK,HM,BI⟩:=hrel
  by_cases hlt:k<n3
  ·have d1:decide ((k:Int)<(n3:Int))=true:=by simp;omega
   have hki:(k:Int)<(n3:Int):=by omega
   obtain ⟨⟨ml,mp,me⟩,hM⟩:∃ M,markI xs ([],p3,0) k=M:=⟨_,rfl⟩
   obtain ⟨⟨ts,tp,te⟩,htx⟩:∃ T,textA xs mp me 32=T:=⟨_,rfl⟩
   obtain ⟨⟨vn,vp,ve⟩,hva⟩:∃ V,varA xs tp te=V:=⟨_,rfl⟩
   obtain ⟨ov,hov⟩:∃ ov,toI vn=ov:=⟨_,rfl⟩
   rw [hM] at HK HM
   simp only at HK HM
   have Htx:=Lib.hid htx
   have Hva:=Lib.hid hva
   have HMs:=Lib.hid (markI_next hM htx hva hov)
   have Hwv:=Lib.hid (show IntKind.i64.wrap (vn:Int)=ov by rw [i64wrap_toI,hov])
   have hs1:k+1<=maxLen:=by simp only [maxLen];omega
   have hs2:(k+1)*24<=70368744177664:=by omega
   have hwk:IntKind.u64.wrap ((k:Int)+1)=(k:Int)+1:=by rw [wrap_nat _ (by omega) (by omega)];omega
   clear hM htx hva hov
   go_wp2_with fail
   with_reducible refine (ptext_is HK.out.rd hxl (by decide) Htx.out).mono ?_
   rintro e w4 ha
   obtain ⟨rfl,hk',hgr⟩:=HK.out.ask ha
   obtain ⟨rc,hrc⟩:=HK.out.rdblk
   have HM:=Lib.hid (own_grown HM.out hrc (by decide) hgr)
   have BI:=Lib.hid (blk_grown2 BI.out hgr (by have:=Hb8.out;omega))
   have HK:=Lib.hid hk'
   clear ha hk' hgr hrc
   have hS:True:=trivial
   go_wp2
   refine bR (fun _=>True) (.pure 0 (.pure 2 (.pure 3 (.fork 1 4 (.eff 4 (.pure 5 (.pure 6 (.eff 7 (.eff 8 (.pure 9 (.eff 10 .done))))))) (.pure 5 (.pure 6 (.fork 1 7 (.eff 7 (.eff 8 (.pure 9 (.eff 10 .done)))) (.eff 1 (.eff 8 (.pure 9 (.eff 10 .done))))))))))) ?_
   replace HK:=Lib.hid (HK.out.on (Below.refl w4.heap.size w4).drew)
   replace HM:=Lib.hid (own_below HM.out (Below.refl w4.heap.size w4).drew)
   replace BI:=Lib.hid (BI.out.on (Below.refl w4.heap.size w4).drew)
   generalize w4.drew=w10 at *
   iterate 3
    refine bP hS ?_
   apply plb_fjoin
   case h1=>
    intro hΦ
    have t2:=HK.out.st.cell 2
    refine bE fun K hK=>?_
    go_simp
    clear t2
    refine held_go hK (by exact trivial) fun hS=>?_
    clear hK K
    try simp only [zp]
    refine bE fun K hK=>?_
    go_simp
    with_reducible refine (pvar_is HK.out.rd hxl Hva.out).mono ?_
    rintro e w5 ha
    obtain ⟨rfl,hk',hgr⟩:=HK.out.ask ha
    obtain ⟨rc,hrc⟩:=HK.out.rdblk
    have HM:=Lib.hid (own_grown HM.out hrc (by decide) hgr)
    have BI:=Lib.hid (blk_grown2 BI.out hgr (by have:=Hb8.out;omega))
    have HK:=Lib.hid hk'
    clear ha hk' hgr hrc
    refine held_go hK (by exact trivial) fun hS=>?_
    clear hK K
    try simp only [zp]
    refine bP hS ?_
    rw [Hwv.out]
    refine bP hS ?_
    refine bE fun K hK=>?_
    go_simp
    have hal:=bal (Below.refl w5.heap.size w5) (.cells #[.string ts,.int .i64 ov] 90)
    have HR:=Lib.hid (reads_mkb w5 _ rfl ts ov)
    replace HK:=Lib.hid (HK.out.on hal)
    replace HM:=Lib.hid (own_below HM.out hal)
    replace BI:=Lib.hid (BI.out.on hal)
    clear hal
    obtain ⟨gl,hgl⟩:∃ gl,gl=w5.heap.size:=⟨_,rfl⟩
    rw [<-hgl] at HR ⊢
    generalize w5.alloc (.cells #[.string ts,.int .i64 ov] 90)=w6 at *
    clear hgl
    refine held_go hK (by exact trivial) fun hS=>?_
    clear hK K
    try simp only [zp]
    refine bE fun K hK=>?_
    refine wp_append_any _ (.tmp 39) (.tmp 45) 49 rfl (g+1) 90 m0 (.agg #[.string ⟨#[]⟩,.int .i64 0]) 2 24 Tryz.underlying49 hm0 hm1 hm2 hm3 rfl (by decide) A4 k c4 _ rfl HM.out (some ⟨gl,0,none⟩) 1 1 (mks [(ts,ov)]) rfl HR.out (mks_one _) hs1 hs2 HK.out.rd.lt ?_
    intro A8 c8 w8 r1 r2 r3 r4 r5
    rw [<-mks_append] at r1
    replace BI:=Lib.hid (BI.out.apart HM.out (by decide) r3)
    replace HK:=Lib.hid (HK.out.up r2)
    replace HM:=Lib.hid r1
    clear r1 r2 r3 r4 r5
    refine held_go hK (by exact trivial) fun hS=>?_
    clear hK K
    try simp only [zp]
    refine bP hS ?_
    have t2:=HK.out.st.cell 2
    have f2:=HK.out.st.frozen 2
    refine bE fun K hK=>?_
    go_simp
    clear t2 f2
    replace HM:=Lib.hid (own_far HM.out HK.out.st (by decide) 2 (.slice A8 (k+1) c8))
    replace BI:=Lib.hid (BI.out.far (p:=⟨w.heap.size+1,2,none⟩) (by show b8≠w.heap.size+1;have:=Hb8.out;have:=Hgl.out;omega) (.slice A8 (k+1) c8))
    have hk2:=HK.out.set_ (st_nou8 _ _ _ _ _ _ _ _ _ _ _) 2 (.slice A8 (k+1) c8)
    simp only [List.setIfInBounds_toArray,List.set_cons_succ,List.set_cons_zero] at hk2
    have HA:=Lib.hid (And.intro hk2 (And.intro HM.out BI.out))
    clear hk2 HK HM BI HR
    generalize w8.setCell ⟨w.heap.size+1,2,none⟩ (.slice A8 (k+1) c8)=w9 at *
    refine held_go hK (by exact trivial) fun hS=>?_
    clear hK K
    try simp only [zp]
    refine plb_end ?_
    revert HA
    revert w9
    revert c8
    revert A8
    revert gl
    exact hΦ.out
   case h2=>
    intro hΦ
    refine bE fun K hK=>?_
    go_simp
    with_reducible refine (pvar_is HK.out.rd hxl Hva.out).mono ?_
    rintro e w5 ha
    obtain ⟨rfl,hk',hgr⟩:=HK.out.ask ha
    obtain ⟨rc,hrc⟩:=HK.out.rdblk
    have HM:=Lib.hid (own_grown HM.out hrc (by decide) hgr)
    have BI:=Lib.hid (blk_grown2 BI.out hgr (by have:=Hb8.out;omega))
    have HK:=Lib.hid hk'
    clear ha hk' hgr hrc
    refine held_go hK (by exact trivial) fun hS=>?_
    clear hK K
    try simp only [zp]
    refine bP hS ?_
    rw [Hwv.out]
    refine bP hS ?_
    refine plb_fork ?_ ?_
    ·have t2:=HK.out.st.cell 2
     refine bE fun K hK=>?_
     go_simp
     clear t2
     refine held_go hK (by exact trivial) fun hS=>?_
     clear hK K
     try simp only [zp]
     refine bE fun K hK=>?_
     go_simp
     have hal:=bal (Below.refl w5.heap.size w5) (.cells #[.string ts,.int .i64 ov] 90)
     have HR:=Lib.hid (reads_mkb w5 _ rfl ts ov)
     replace HK:=Lib.hid (HK.out.on hal)
     replace HM:=Lib.hid (own_below HM.out hal)
     replace BI:=Lib.hid (BI.out.on hal)
     clear hal
     obtain ⟨gl,hgl⟩:∃ gl,gl=w5.heap.size:=⟨_,rfl⟩
     rw [<-hgl] at HR ⊢
     generalize w5.alloc (.cells #[.string ts,.int .i64 ov] 90)=w6 at *
     clear hgl
     refine held_go hK (by exact trivial) fun hS=>?_
     clear hK K
     try simp only [zp]
     refine bE fun K hK=>?_
     refine wp_append_any _ (.tmp 39) (.tmp 45) 49 rfl (g+1) 90 m0 (.agg #[.string ⟨#[]⟩,.int .i64 0]) 2 24 Tryz.underlying49 hm0 hm1 hm2 hm3 rfl (by decide) A4 k c4 _ rfl HM.out (some ⟨gl,0,none⟩) 1 1 (mks [(ts,ov)]) rfl HR.out (mks_one _) hs1 hs2 HK.out.rd.lt ?_
     intro A8 c8 w8 r1 r2 r3 r4 r5
     rw [<-mks_append] at r1
     replace BI:=Lib.hid (BI.out.apart HM.out (by decide) r3)
     replace HK:=Lib.hid (HK.out.up r2)
     replace HM:=Lib.hid r1
     clear r1 r2 r3 r4 r5
     refine held_go hK (by exact trivial) fun hS=>?_
     clear hK K
     try simp only [zp]
     refine bP hS ?_
     have t2:=HK.out.st.cell 2
     have f2:=HK.out.st.frozen 2
     refine bE fun K hK=>?_
     go_simp
     clear t2 f2
     replace HM:=Lib.hid (own_far HM.out HK.out.st (by decide) 2 (.slice A8 (k+1) c8))
     replace BI:=Lib.hid (BI.out.far (p:=⟨w.heap.size+1,2,none⟩) (by show b8≠w.heap.size+1;have:=Hb8.out;have:=Hgl.out;omega) (.slice A8 (k+1) c8))
     have hk2:=HK.out.set_ (st_nou8 _ _ _ _ _ _ _ _ _ _ _) 2 (.slice A8 (k+1) c8)
     simp only [List.setIfInBounds_toArray,List.set_cons_succ,List.set_cons_zero] at hk2
     have HA:=Lib.hid (And.intro hk2 (And.intro HM.out BI.out))
     clear hk2 HK HM BI HR
     generalize w8.setCell ⟨w.heap.size+1,2,none⟩ (.slice A8 (k+1) c8)=w9 at *
     refine held_go hK (by exact trivial) fun hS=>?_
     clear hK K
     try simp only [zp]
     refine plb_end ?_
     revert HA
     exact fun HA=>hΦ.out gl A8 c8 w9 HA
    refine bE fun K hK=>?_
    go_simp
    have hal:=bal (Below.refl w5.heap.size w5) (.cells #[.string ts,.int .i64 ov] 90)
    have HR:=Lib.hid (reads_mkb w5 _ rfl ts ov)
    replace HK:=Lib.hid (HK.out.on hal)
    replace HM:=Lib.hid (own_below HM.out hal)
    replace BI:=Lib.hid (BI.out.on hal)
    clear hal
    obtain ⟨gl,hgl⟩:∃ gl,gl=w5.heap.size:=⟨_,rfl⟩
    rw [<-hgl] at HR ⊢
    generalize w5.alloc (.cells #[.string ts,.int .i64 ov] 90)=w6 at *
    clear hgl
    refine held_go hK (by exact trivial) fun hS=>?_
    clear hK K
    try simp only [zp]
    have t2:=HK.out.st.cell 2
    refine bE fun K hK=>?_
    go_simp
    clear t2
    refine held_go hK (by exact trivial) fun hS=>?_
    clear hK K
    try simp only [zp]
    refine bE fun K hK=>?_
    refine wp_append_any _ (.tmp 39) (.tmp 45) 49 rfl (g+1) 90 m0 (.agg #[.string ⟨#[]⟩,.int .i64 0]) 2 24 Tryz.underlying49 hm0 hm1 hm2 hm3 rfl (by decide) A4 k c4 _ rfl HM.out (some ⟨gl,0,none⟩) 1 1 (mks [(ts,ov)]) rfl HR.out (mks_one _) hs1 hs2 HK.out.rd.lt ?_
    intro A8 c8 w8 r1 r2 r3 r4 r5
    rw [<-mks_append] at r1
    replace BI:=Lib.hid (BI.out.apart HM.out (by decide) r3)
    replace HK:=Lib.hid (HK.out.up r2)
    replace HM:=Lib.hid r1
    clear r1 r2 r3 r4 r5
    refine held_go hK (by exact trivial) fun hS=>?_
    clear hK K
    try simp only [zp]
    refine bP hS ?_
    have t2:=HK.out.st.cell 2
    have f2:=HK.out.st.frozen 2
    refine bE fun K hK=>?_
    go_simp
    clear t2 f2
    replace HM:=Lib.hid (own_far HM.out HK.out.st (by decide) 2 (.slice A8 (k+1) c8))
    replace BI:=Lib.hid (BI.out.far (p:=⟨w.heap.size+1,2,none⟩) (by show b8≠w.heap.size+1;have:=Hb8.out;have:=Hgl.out;omega) (.slice A8 (k+1) c8))
    have hk2:=HK.out.set_ (st_nou8 _ _ _ _ _ _ _ _ _ _ _) 2 (.slice A8 (k+1) c8)
    simp only [List.setIfInBounds_toArray,List.set_cons_succ,List.set_cons_zero] at hk2
    have HA:=Lib.hid (And.intro hk2 (And.intro HM.out BI.out))
    clear hk2 HK HM BI HR
    generalize w8.setCell ⟨w.heap.size+1,2,none⟩ (.slice A8 (k+1) c8)=w9 at *
    refine held_go hK (by exact trivial) fun hS=>?_
    clear hK K
    try simp only [zp]
    refine plb_end ?_
    revert HA
    exact fun HA=>hΦ.out gl A8 c8 w9 HA
   intro gl A8 c8 w9 HA
   have HK:=Lib.hid HA.out.1
   have HM:=Lib.hid HA.out.2.1
   have BI:=Lib.hid HA.out.2.2
   rw [show ml++[(ts,ov)]=(markI xs ([],p3,0) (k+1)).1 by rw [HMs.out]] at HM
   rw [show vp=(markI xs ([],p3,0) (k+1)).2.1 by rw [HMs.out],show ve=(markI xs ([],p3,0) (k+1)).2.2 by rw [HMs.out]] at HK
   clear HA hS
   go_wp2
   go_roundw
   case rel=>exact ⟨k+1,A8,c8,by omega,by go_num,HK,HM,BI⟩
   case measure=>simp [intOf];omega
  have d1:decide ((k:Int)<(n3:Int))=false:=by simp;omega
  obtain rfl:k=n3:=by omega
  obtain ⟨⟨ml,mp,me⟩,hM⟩:∃ M,markI xs ([],p3,0) k=M:=⟨_,rfl⟩
  have Hmok:=Lib.hid (show MkOk ml by have:=markI_ok xs p3 0 k;rwa [hM] at this)
  rw [hM] at HK HM HPI
  simp only at HK HM HPI
  obtain ⟨⟨ds,dp,de⟩,hds⟩:∃ T,textA xs mp me 2147483647=T:=⟨_,rfl⟩
  have hdz:ds.size<=2147483647:=by have:=textA_le_of (by decide) hds;omega
  have Hds:=Lib.hid hds
  have L0:=Lib.hid (show ∀ w':World,w'.cell? ⟨w.heap.size,0,none⟩=some (.slice CA cn cc)->w'.cell? ⟨w.heap.size,0,none⟩=some (.slice CA cn cc) from fun _ h=>h)
  have hS:wr.drew.cell? ⟨w.heap.size,0,none⟩=some (.slice CA cn cc):=HK.out.box.cell 0
  have Hzn:=Lib.hid (show ds.size<=maxLen by simp only [maxLen];omega)
  clear hM hds d1
  go_wp2
  refine hR (fun w'=>w'.cell? ⟨w.heap.size,0,none⟩=some (.slice CA cn cc)) [ff 0,ff 1,ff 2,tt 3,tt 4,tt 5,ff 6,ff 7,ff 8,tt 9,ff 10] ?_
  replace HK:=Lib.hid (HK.out.on (Below.refl wr.heap.size wr).drew)
  replace HM:=Lib.hid (own_below HM.out (Below.refl wr.heap.size wr).drew)
  replace BI:=Lib.hid (BI.out.on (Below.refl wr.heap.size wr).drew)
  generalize wr.drew=w10 at *
  refine hP hS ?_
  refine hP1 hS L0.out ?_
  refine hP hS ?_
  refine hE fun K hK=>?_
  go_simp
  with_reducible refine (ptext_is HK.out.rd hxl (by decide) Hds.out).mono ?_
  rintro e w11 ha
  obtain ⟨rfl,hk',hgr⟩:=HK.out.ask ha
  obtain ⟨rc,hrc⟩:=HK.out.rdblk
  have HM:=Lib.hid (own_grown HM.out hrc (by decide) hgr)
  have BI:=Lib.hid (blk_grown2 BI.out hgr (by have:=Hb8.out;omega))
  have HK:=Lib.hid hk'
  clear ha hk' hgr hrc
  refine held_go hK (by exact HK.out.box.cell 0) fun hS=>?_
  clear hK K
  try simp only [zp]
  obtain ⟨XA,xc,w12,hconv,hxr,hxc1,hxc2,hxb⟩:=str_bytes (P:=Tryz.prog) w11 9 35 5 ds Tryz.underlying9 Tryz.underlying35 Tryz.underlying5 Hzn.out
  replace HK:=Lib.hid (HK.out.on hxb)
  replace HM:=Lib.hid (own_below HM.out hxb)
  replace BI:=Lib.hid (BI.out.on hxb)
  have HXr:=Lib.hid hxr
  have Hxc:=Lib.hid (And.intro hxc1 hxc2)
  clear hxr hxb hxc1 hxc2
  refine hE fun K hK=>?_
  go_simp
  clear hconv
  refine held_go hK (by exact HK.out.box.cell 0) fun hS=>?_
  clear hK K
  try simp only [zp]
  refine hE fun K hK=>?_
  go_simp
  with_reducible refine (bdec_any CA cn cc s.1 XA ds.size xc ds.data.toList _ (HSc.out.on HK.out.below).cols (by simp only [maxLen];omega) HXr.out Hxc.out.1 Hxc.out.2 (HT.out.on HK.out.below)).mono ?_
  have Hz12:=Lib.hid HK.out.below.size
  rintro e w13 ⟨hb,hd⟩
  replace HK:=Lib.hid (HK.out.on hb)
  replace HM:=Lib.hid (own_below HM.out hb)
  replace BI:=Lib.hid (BI.out.on hb)
  clear hb HXr Hxc
  obtain ⟨R,hR⟩:∃ R,decB s.1 ds.data.toList=R:=⟨_,rfl⟩
  rw [hR] at hd
  cases R with
  | error er=>
   obtain ⟨rfl,hne⟩:=hd
   replace HPI:=Lib.hid (show parseI s xs=.error 280 by rw [HPI.out,parseT_err Hds.out hR])
   have e1':((er:Int)==0)=false:=by simp;omega
   clear hR hne
   refine held_go hK (by exact HK.out.box.cell 0) fun hS=>?_
   clear hK K
   try simp only [zp]
   iterate 3
    refine hP hS ?_
   have a0:=BI.out.cell 0
   have a1:=BI.out.cell 1
   have a2:=BI.out.cell 2
   have f0:=BI.out.frozen 0
   have f1:=BI.out.frozen 1
   have f2:=BI.out.frozen 2
   refine hE fun K hK=>?_
   go_simp
   clear a0 a1 a2 f0 f1 f2
   have hgb:g+1<=b8:=Hb8.out
   replace HK:=Lib.hid (HK.out.up ((((Below.refl (g+1) w13).setCell (p:=⟨b8,0,none⟩) hgb (.int .i64 (0))).setCell (p:=⟨b8,1,none⟩) hgb (.int .i64 (0))).setCell (p:=⟨b8,2,none⟩) hgb (.slice none 0 0)))
   replace HM:=Lib.hid (own_far (own_far (own_far HM.out BI.out (by decide) 0 (.int .i64 (0))) (BI.out.set_ 0 (.int .i64 (0))) (by decide) 1 (.int .i64 (0))) ((BI.out.set_ 0 (.int .i64 (0))).set_ 1 (.int .i64 (0))) (by decide) 2 (.slice none 0 0))
   have bi2:=((BI.out.set_ 0 (.int .i64 (0))).set_ 1 (.int .i64 (0))).set_ 2 (.slice none 0 0)
   simp only [List.setIfInBounds_toArray,List.set_cons_succ,List.set_cons_zero] at bi2
   replace BI:=Lib.hid bi2
   clear bi2 hgb
   generalize ((w13.setCell ⟨b8,0,none⟩ (.int .i64 (0))).setCell ⟨b8,1,none⟩ (.int .i64 (0))).setCell ⟨b8,2,none⟩ (.slice none 0 0)=w14 at *
   refine held_go hK (by exact HK.out.box.cell 0) fun hS=>?_
   clear hK K
   try simp only [zp]
   refine hP hS ?_
   refine held_end ?_
   clear hS L0
   go_wp2_with fail
   with_reducible refine (ineed_no 280 _).mono ?_
   rintro e w15 ⟨rfl,rfl⟩
   have t0:=HK.out.st.cell 0
   have t1:=HK.out.st.cell 1
   have t2:=HK.out.st.cell 2
   have t3:=HK.out.st.cell 3
   have t4:=HK.out.st.cell 4
   have f0:=HK.out.st.frozen 0
   have f1:=HK.out.st.frozen 1
   have f2:=HK.out.st.frozen 2
   have f3:=HK.out.st.frozen 3
   have f4:=HK.out.st.frozen 4
   go_wp2
   go_step3
   refine ⟨rfl,?_⟩
   show Code.wp _ _ _ _ _
   go_wp2
   rw [Exit.noGoto_ret]
   clear t0 t1 t2 t3 t4 f0 f1 f2 f3 f4
   have hrf:=((((HK.out.st.set_ 0 (.int .i64 0)).set_ 1 (.int .i64 0)).set_ 2 (.slice none 0 0)).set_ 3 (.slice none 0 0)).set_ 4 (.slice none 0 0)
   simp only [List.setIfInBounds_toArray,List.set_cons_zero,List.set_cons_succ] at hrf
   have r0:=hrf.cell 0
   have r1:=hrf.cell 1
   have r2:=hrf.cell 2
   have r3:=hrf.cell 3
   have r4:=hrf.cell 4
   have hlow:w.heap.size<=w.heap.size+1:=by omega
   have hbf:=((((HK.out.below.setCell (p:=⟨w.heap.size+1,0,none⟩) hlow (.int .i64 0)).setCell (p:=⟨w.heap.size+1,1,none⟩) hlow (.int .i64 0)).setCell (p:=⟨w.heap.size+1,2,none⟩) hlow (.slice none 0 0)).setCell (p:=⟨w.heap.size+1,3,none⟩) hlow (.slice none 0 0)).setCell (p:=⟨w.heap.size+1,4,none⟩) hlow (.slice none 0 0)
   refine bodyPost_ret (v:=.tuple #[.agg #[.int .i64 0,.int .i64 0,.slice none 0 0,.slice none 0 0,.slice none 0 0],.iface 164 (.agg #[.int .i64 280])]) (by simp [results,Tryz.results84,go_sem,r0,r1,r2,r3,r4]) rfl ?_
   rw [HPI.out]
   exact ⟨hbf,rfl,by decide⟩
  | ok b=>
   obtain ⟨bv,bq,bl⟩:=b
   obtain ⟨I,m',d',rfl,hit⟩:=hd
   obtain ⟨hfit,hbok,-⟩:=decB_only hR
   have Hit:=Lib.hid (hfit.itOk hbok)
   have HI:=Lib.hid (hit.mono Hz12.out)
   have HR:=Lib.hid hR
   clear hR hfit hbok hit
   refine held_go hK (by exact HK.out.box.cell 0) fun hS=>?_
   clear hK K
   try simp only [zp]
   iterate 3
    refine hP hS ?_
   replace HI:=Lib.hid (HI.out.far BI.out (by decide) (by decide) 0 (.int .i64 bv))
   replace HI:=Lib.hid (HI.out.far (BI.out.set_ 0 (.int .i64 bv)) (by decide) (by decide) 1 (.int .i64 bq))
   replace HI:=Lib.hid (HI.out.far ((BI.out.set_ 0 (.int .i64 bv)).set_ 1 (.int .i64 bq)) (by decide) (by decide) 2 (.slice I m' d'))
   have a0:=BI.out.cell 0
   have a1:=BI.out.cell 1
   have a2:=BI.out.cell 2
   have f0:=BI.out.frozen 0
   have f1:=BI.out.frozen 1
   have f2:=BI.out.frozen 2
   refine hE fun K hK=>?_
   go_simp
   clear a0 a1 a2 f0 f1 f2
   have hgb:g+1<=b8:=Hb8.out
   replace HK:=Lib.hid (HK.out.up ((((Below.refl (g+1) w13).setCell (p:=⟨b8,0,none⟩) hgb (.int .i64 (bv))).setCell (p:=⟨b8,1,none⟩) hgb (.int .i64 (bq))).setCell (p:=⟨b8,2,none⟩) hgb (.slice I m' d')))
   replace HM:=Lib.hid (own_far (own_far (own_far HM.out BI.out (by decide) 0 (.int .i64 (bv))) (BI.out.set_ 0 (.int .i64 (bv))) (by decide) 1 (.int .i64 (bq))) ((BI.out.set_ 0 (.int .i64 (bv))).set_ 1 (.int .i64 (bq))) (by decide) 2 (.slice I m' d'))
   have bi2:=((BI.out.set_ 0 (.int .i64 (bv))).set_ 1 (.int .i64 (bq))).set_ 2 (.slice I m' d')
   simp only [List.setIfInBounds_toArray,List.set_cons_succ,List.set_cons_zero] at bi2
   replace BI:=Lib.hid bi2
   clear bi2 hgb
   generalize ((w13.setCell ⟨b8,0,none⟩ (.int .i64 (bv))).setCell ⟨b8,1,none⟩ (.int .i64 (bq))).setCell ⟨b8,2,none⟩ (.slice I m' d')=w14 at *
   refine held_go hK (by exact HK.out.box.cell 0) fun hS=>?_
   clear hK K
   try simp only [zp]
   refine hP hS ?_
   refine held_end ?_
   clear hS L0
   have b0:=BI.out.cell 0
   have b1:=BI.out.cell 1
   have t0:=HK.out.st.cell 0
   have t1:=HK.out.st.cell 1
   by_cases hvq:bv=i1/\bq=i2
   case neg=>
    replace HPI:=Lib.hid (show parseI s xs=.error 280 by rw [HPI.out,parseT_no Hds.out HR.out hvq])
    by_cases hv1:bv=i1
    ·have e1':(bv==i1)=true:=by simpa using hv1
     have e2':(bq==i2)=false:=by simpa using fun h=>hvq ⟨hv1,h⟩
     clear hv1 hvq
     go_wp2_with fail
     with_reducible refine (ineed_no 280 _).mono ?_
     rintro e w15 ⟨rfl,rfl⟩
     clear b0 b1 t0 t1
     have t0:=HK.out.st.cell 0
     have t1:=HK.out.st.cell 1
     have t2:=HK.out.st.cell 2
     have t3:=HK.out.st.cell 3
     have t4:=HK.out.st.cell 4
     have f0:=HK.out.st.frozen 0
     have f1:=HK.out.st.frozen 1
     have f2:=HK.out.st.frozen 2
     have f3:=HK.out.st.frozen 3
     have f4:=HK.out.st.frozen 4
     go_wp2
     go_step3
     refine ⟨rfl,?_⟩
     show Code.wp _ _ _ _ _
     go_wp2
     rw [Exit.noGoto_ret]
     clear t0 t1 t2 t3 t4 f0 f1 f2 f3 f4
     have hrf:=((((HK.out.st.set_ 0 (.int .i64 0)).set_ 1 (.int .i64 0)).set_ 2 (.slice none 0 0)).set_ 3 (.slice none 0 0)).set_ 4 (.slice none 0 0)
     simp only [List.setIfInBounds_toArray,List.set_cons_zero,List.set_cons_succ] at hrf
     have r0:=hrf.cell 0
     have r1:=hrf.cell 1
     have r2:=hrf.cell 2
     have r3:=hrf.cell 3
     have r4:=hrf.cell 4
     have hlow:w.heap.size<=w.heap.size+1:=by omega
     have hbf:=((((HK.out.below.setCell (p:=⟨w.heap.size+1,0,none⟩) hlow (.int .i64 0)).setCell (p:=⟨w.heap.size+1,1,none⟩) hlow (.int .i64 0)).setCell (p:=⟨w.heap.size+1,2,none⟩) hlow (.slice none 0 0)).setCell (p:=⟨w.heap.size+1,3,none⟩) hlow (.slice none 0 0)).setCell (p:=⟨w.heap.size+1,4,none⟩) hlow (.slice none 0 0)
     refine bodyPost_ret (v:=.tuple #[.agg #[.int .i64 0,.int .i64 0,.slice none 0 0,.slice none 0 0,.slice none 0 0],.iface 164 (.agg #[.int .i64 280])]) (by simp [results,Tryz.results84,go_sem,r0,r1,r2,r3,r4]) rfl ?_
     rw [HPI.out]
     exact ⟨hbf,rfl,by decide⟩
    have e1':(bv==i1)=false:=by simpa using hv1
    clear hv1 hvq
    go_wp2_with fail
    with_reducible refine (ineed_no 280 _).mono ?_
    rintro e w15 ⟨rfl,rfl⟩
    clear b0 b1 t0 t1
    have t0:=HK.out.st.cell 0
    have t1:=HK.out.st.cell 1
    have t2:=HK.out.st.cell 2
    have t3:=HK.out.st.cell 3
    have t4:=HK.out.st.cell 4
    have f0:=HK.out.st.frozen 0
    have f1:=HK.out.st.frozen 1
    have f2:=HK.out.st.frozen 2
    have f3:=HK.out.st.frozen 3
    have f4:=HK.out.st.frozen 4
    go_wp2
    go_step3
    refine ⟨rfl,?_⟩
    show Code.wp _ _ _ _ _
    go_wp2
    rw [Exit.noGoto_ret]
    clear t0 t1 t2 t3 t4 f0 f1 f2 f3 f4
    have hrf:=((((HK.out.st.set_ 0 (.int .i64 0)).set_ 1 (.int .i64 0)).set_ 2 (.slice none 0 0)).set_ 3 (.slice none 0 0)).set_ 4 (.slice none 0 0)
    simp only [List.setIfInBounds_toArray,List.set_cons_zero,List.set_cons_succ] at hrf
    have r0:=hrf.cell 0
    have r1:=hrf.cell 1
    have r2:=hrf.cell 2
    have r3:=hrf.cell 3
    have r4:=hrf.cell 4
    have hlow:w.heap.size<=w.heap.size+1:=by omega
    have hbf:=((((HK.out.below.setCell (p:=⟨w.heap.size+1,0,none⟩) hlow (.int .i64 0)).setCell (p:=⟨w.heap.size+1,1,none⟩) hlow (.int .i64 0)).setCell (p:=⟨w.heap.size+1,2,none⟩) hlow (.slice none 0 0)).setCell (p:=⟨w.heap.size+1,3,none⟩) hlow (.slice none 0 0)).setCell (p:=⟨w.heap.size+1,4,none⟩) hlow (.slice none 0 0)
    refine bodyPost_ret (v:=.tuple #[.agg #[.int .i64 0,.int .i64 0,.slice none 0 0,.slice none 0 0,.slice none 0 0],.iface 164 (.agg #[.int .i64 280])]) (by simp [results,Tryz.results84,go_sem,r0,r1,r2,r3,r4]) rfl ?_
    rw [HPI.out]
    exact ⟨hbf,rfl,by decide⟩
   obtain ⟨⟨ls,lp,le⟩,hls⟩:∃ T,textA xs dp de 1048576=T:=⟨_,rfl⟩
   have hlz:ls.size<=1048576:=by have:=textA_le_of (by decide) hls;omega
   replace HPI:=Lib.hid (show parseI s xs=if endE (xs.length-lp) le=0/\stB s (i1,i2,ml,bl,ls.data.toList)=true then .ok (i1,i2,ml,bl,ls.data.toList) else .error 280 by rw [HPI.out,parseT_yes Hds.out HR.out hvq hls])
   have Hls:=Lib.hid hls
   have e1':(bv==i1)=true:=by simpa using hvq.1
   have e2':(bq==i2)=true:=by simpa using hvq.2
   clear hvq hls HR Hds
   go_wp2_with fail
   with_reducible refine (ineed_yes 280 _).mono ?_
   rintro e w15 ⟨rfl,rfl⟩
   clear b0 b1 t0 t1 e1' e2'
   have b2:=BI.out.cell 2
   have t3:=HK.out.st.cell 3
   have f3:=HK.out.st.frozen 3
   go_wp2_with fail
   clear b2 t3 f3
   replace HM:=Lib.hid (own_far HM.out HK.out.st (by decide) 3 (.slice I m' d'))
   replace HI:=Lib.hid (HI.out.far HK.out.st (by decide) (by decide) 3 (.slice I m' d'))
   have hk2:=HK.out.set_ (st_nou8 _ _ _ _ _ _ _ _ _ _ _) 3 (.slice I m' d')
   simp only [List.setIfInBounds_toArray,List.set_cons_succ,List.set_cons_zero] at hk2
   replace HK:=Lib.hid hk2
   clear hk2 BI
   generalize w14.setCell ⟨w.heap.size+1,3,none⟩ (.slice I m' d')=w15 at *
   with_reducible refine (ptext_is HK.out.rd hxl (by decide) Hls.out).mono ?_
   rintro e w16 ha
   obtain ⟨rfl,hk',hgr⟩:=HK.out.ask ha
   obtain ⟨rc,hrc⟩:=HK.out.rdblk
   replace HM:=Lib.hid (own_grown HM.out hrc (by decide) hgr)
   replace HI:=Lib.hid (HI.out.grown3 hrc hgr)
   replace HK:=Lib.hid hk'
   clear ha hk' hgr hrc
   have Hz16:=Lib.hid HK.out.below.size
   obtain ⟨LA,lc,w17,hconv,hxr,hxc1,hxc2,hxb,hxa⟩:=str_bytes2 (P:=Tryz.prog) w16 9 35 5 ls Tryz.underlying9 Tryz.underlying35 Tryz.underlying5 (by simp only [maxLen];omega)
   replace HK:=Lib.hid (HK.out.on hxb)
   replace HM:=Lib.hid (own_below HM.out hxb)
   replace HI:=Lib.hid (HI.out.below hxb)
   have HL:=Lib.hid hxr
   have HLc:=Lib.hid (And.intro hxc1 hxc2)
   have HLa:=Lib.hid (show ∀ ad,LA=some ad->w.heap.size<=ad.block from fun ad h=>Nat.le_trans Hz16.out (hxa ad h))
   have t4:=HK.out.st.cell 4
   have f4:=HK.out.st.frozen 4
   clear hxr hxb hxc1 hxc2 hxa
   go_wp2_with fail
   clear hconv t4 f4
   replace HM:=Lib.hid (own_far HM.out HK.out.st (by decide) 4 (.slice LA ls.size lc))
   replace HI:=Lib.hid (HI.out.far HK.out.st (by decide) (by decide) 4 (.slice LA ls.size lc))
   replace HL:=Lib.hid (reads_setT HL.out HK.out.st (st_nou8 _ _ _ _ _ _ _ _ _ _ _) (i:=4) (.slice LA ls.size lc))
   have hk2:=HK.out.set_ (st_nou8 _ _ _ _ _ _ _ _ _ _ _) 4 (.slice LA ls.size lc)
   simp only [List.setIfInBounds_toArray,List.set_cons_succ,List.set_cons_zero] at hk2
   replace HK:=Lib.hid hk2
   clear hk2
   generalize w17.setCell ⟨w.heap.size+1,4,none⟩ (.slice LA ls.size lc)=w18 at *
   with_reducible refine (pend_any g xs lp le _ HK.out.rd).mono ?_
   rintro e w19 ⟨rfl,rfl⟩
   by_cases hend:endE (xs.length-lp) le=0
   case neg=>
    replace HPI:=Lib.hid (show parseI s xs=.error 280 by rw [HPI.out,if_neg (fun h=>hend h.1)])
    have e1':((endE (xs.length-lp) le:Int)==0)=false:=by simpa using hend
    clear hend
    go_wp2_with fail
    with_reducible refine (ineed_no 280 _).mono ?_
    rintro e w20 ⟨rfl,rfl⟩
    have t0:=HK.out.st.cell 0
    have t1:=HK.out.st.cell 1
    have t2:=HK.out.st.cell 2
    have t3:=HK.out.st.cell 3
    have t4:=HK.out.st.cell 4
    have f0:=HK.out.st.frozen 0
    have f1:=HK.out.st.frozen 1
    have f2:=HK.out.st.frozen 2
    have f3:=HK.out.st.frozen 3
    have f4:=HK.out.st.frozen 4
    go_wp2
    go_step3
    go_wp2
    try rw [jump_ret]
    clear t0 t1 t2 t3 t4 f0 f1 f2 f3 f4
    have hrf:=((((HK.out.st.set_ 0 (.int .i64 0)).set_ 1 (.int .i64 0)).set_ 2 (.slice none 0 0)).set_ 3 (.slice none 0 0)).set_ 4 (.slice none 0 0)
    simp only [List.setIfInBounds_toArray,List.set_cons_zero,List.set_cons_succ] at hrf
    have r0:=hrf.cell 0
    have r1:=hrf.cell 1
    have r2:=hrf.cell 2
    have r3:=hrf.cell 3
    have r4:=hrf.cell 4
    have hlow:w.heap.size<=w.heap.size+1:=by omega
    have hbf:=((((HK.out.below.setCell (p:=⟨w.heap.size+1,0,none⟩) hlow (.int .i64 0)).setCell (p:=⟨w.heap.size+1,1,none⟩) hlow (.int .i64 0)).setCell (p:=⟨w.heap.size+1,2,none⟩) hlow (.slice none 0 0)).setCell (p:=⟨w.heap.size+1,3,none⟩) hlow (.slice none 0 0)).setCell (p:=⟨w.heap.size+1,4,none⟩) hlow (.slice none 0 0)
    refine bodyPost_ret (v:=.tuple #[.agg #[.int .i64 0,.int .i64 0,.slice none 0 0,.slice none 0 0,.slice none 0 0],.iface 164 (.agg #[.int .i64 280])]) (by simp [results,Tryz.results84,go_sem,r0,r1,r2,r3,r4]) rfl ?_
    rw [HPI.out]
    exact ⟨hbf,rfl,by decide⟩
   replace HPI:=Lib.hid (show parseI s xs=if stB s (i1,i2,ml,bl,ls.data.toList)=true then .ok (i1,i2,ml,bl,ls.data.toList) else .error 280 by rw [HPI.out];simp only [hend,true_and])
   rw [hend]
   clear hend
   have HCk:=iCheck_any CA cn cc KA kn kc s A4 k c4 I m' d' LA ls.size lc (i1,i2,ml,bl,ls.data.toList) w18 ⟨HSc.out.on HK.out.below,⟨own_reads HM.out,HI.out.at_,HL.out⟩,(HT.out.on HK.out.below).tabs⟩ ⟨hcn,hkn,by simp only [maxLen];omega,Nat.le_trans HI.out.caps.1 HI.out.caps.2,by simp only [maxLen];omega,Hok.out,Hmok.out,Hit.out⟩ (HE.out.on HK.out.below)
   simp only at HCk
   have HCk:=Lib.hid HCk
   have s0:=HK.out.box.cell 0
   have s1:=HK.out.box.cell 1
   have t0:=HK.out.st.cell 0
   have t1:=HK.out.st.cell 1
   have t2:=HK.out.st.cell 2
   have t3:=HK.out.st.cell 3
   have t4:=HK.out.st.cell 4
   go_wp2_with fail
   clear s0 s1 t0 t1 t2 t3 t4
   with_reducible refine HCk.out.mono ?_
   rintro e w20 ⟨rfl,hb⟩
   replace HK:=Lib.hid (HK.out.on hb)
   replace HM:=Lib.hid (own_below HM.out hb)
   replace HI:=Lib.hid (HI.out.below hb)
   replace HL:=Lib.hid (HL.out.on hb)
   clear hb HCk
   by_cases hst:stB s (i1,i2,ml,bl,ls.data.toList)=true
   case neg=>
    replace HPI:=Lib.hid (show parseI s xs=.error 280 by rw [HPI.out,if_neg hst])
    rw [imgE_no2 hst]
    clear hst
    go_wp2_with fail
    with_reducible refine (ineed_no 280 _).mono ?_
    rintro e w21 ⟨rfl,rfl⟩
    have t0:=HK.out.st.cell 0
    have t1:=HK.out.st.cell 1
    have t2:=HK.out.st.cell 2
    have t3:=HK.out.st.cell 3
    have t4:=HK.out.st.cell 4
    have f0:=HK.out.st.frozen 0
    have f1:=HK.out.st.frozen 1
    have f2:=HK.out.st.frozen 2
    have f3:=HK.out.st.frozen 3
    have f4:=HK.out.st.frozen 4
    go_wp2
    go_step3
    go_wp2
    try rw [jump_ret]
    clear t0 t1 t2 t3 t4 f0 f1 f2 f3 f4
    have hrf:=((((HK.out.st.set_ 0 (.int .i64 0)).set_ 1 (.int .i64 0)).set_ 2 (.slice none 0 0)).set_ 3 (.slice none 0 0)).set_ 4 (.slice none 0 0)
    simp only [List.setIfInBounds_toArray,List.set_cons_zero,List.set_cons_succ] at hrf
    have r0:=hrf.cell 0
    have r1:=hrf.cell 1
    have r2:=hrf.cell 2
    have r3:=hrf.cell 3
    have r4:=hrf.cell 4
    have hlow:w.heap.size<=w.heap.size+1:=by omega
    have hbf:=((((HK.out.below.setCell (p:=⟨w.heap.size+1,0,none⟩) hlow (.int .i64 0)).setCell (p:=⟨w.heap.size+1,1,none⟩) hlow (.int .i64 0)).setCell (p:=⟨w.heap.size+1,2,none⟩) hlow (.slice none 0 0)).setCell (p:=⟨w.heap.size+1,3,none⟩) hlow (.slice none 0 0)).setCell (p:=⟨w.heap.size+1,4,none⟩) hlow (.slice none 0 0)
    refine bodyPost_ret (v:=.tuple #[.agg #[.int .i64 0,.int .i64 0,.slice none 0 0,.slice none 0 0,.slice none 0 0],.iface 164 (.agg #[.int .i64 280])]) (by simp [results,Tryz.results84,go_sem,r0,r1,r2,r3,r4]) rfl ?_
    rw [HPI.out]
    exact ⟨hbf,rfl,by decide⟩
   replace HPI:=Lib.hid (show parseI s xs=.ok (i1,i2,ml,bl,ls.data.toList) by rw [HPI.out,if_pos hst])
   rw [imgE_zero.2 hst]
   clear hst
   go_wp2_with fail
   with_reducible refine (ineed_yes 280 _).mono ?_
   rintro e w21 ⟨rfl,rfl⟩
   have t0:=HK.out.st.cell 0
   have t1:=HK.out.st.cell 1
   have t2:=HK.out.st.cell 2
   have t3:=HK.out.st.cell 3
   have t4:=HK.out.st.cell 4
   have f0:=HK.out.st.frozen 0
   have f1:=HK.out.st.frozen 1
   have f2:=HK.out.st.frozen 2
   have f3:=HK.out.st.frozen 3
   have f4:=HK.out.st.frozen 4
   go_wp2
   go_step3
   go_wp2
   rw [jump_ret]
   clear t0 t1 t2 t3 t4 f0 f1 f2 f3 f4
   have hst:=HK.out.st
   rw [setCell_id hst (i:=0) (v:=.int .i64 i1) rfl,setCell_id hst (i:=1) (v:=.int .i64 i2) rfl,setCell_id hst (i:=2) (v:=.slice A4 k c4) rfl,setCell_id hst (i:=3) (v:=.slice I m' d') rfl,setCell_id hst (i:=4) (v:=.slice LA ls.size lc) rfl]
   have r0:=hst.cell 0
   have r1:=hst.cell 1
   have r2:=hst.cell 2
   have r3:=hst.cell 3
   have r4:=hst.cell 4
   refine bodyPost_ret (v:=.tuple #[.agg #[.int .i64 i1,.int .i64 i2,.slice A4 k c4,.slice I m' d',.slice LA ls.size lc],.nilIface]) (by simp [results,Tryz.results84,go_sem,r0,r1,r2,r3,r4]) rfl ?_
   rw [HPI.out]
   exact ⟨HK.out.below,A4,k,c4,I,m',d',LA,ls.size,lc,rfl,own_mono HM.out (by have:=Hgl.out;omega),HI.out,HL.out,HLa.out,HLc.out⟩
end Go.Proofs.YtjpjalmilfgckaaGreatDoor
