/- Part 15 of the walks, merged: each text under its own heading. Conditions: none of its own; each lemma states what it asks. -/
import Derived.Test.YtjpjalmilfgckaaGreatDoorIm7
import Derived.Test.YtjpjalmilfgckaaGreatDoorIm11
import Derived.Test.YtjpjalmilfgckaaGreatDoorIm12
import Derived.Test.YtjpjalmilfgckaaGreatDoorIm14
import Derived.Shelf.Strings.SlTrimAscii
import Derived.Test.YtjpjalmilfgckaaGreatDoorProg
import Derived.Shelf.GgClosure.StringsIndexFuncTop
import Derived.Test.YtjpjalmilfgckaaGreatDoorRows
import Derived.Lib.TrimU
import Derived.Defers
import Derived.Recover
set_option maxRecDepth 100000
set_option linter.unusedVariables false
set_option linter.unusedSimpArgs false
namespace Go.Proofs.YtjpjalmilfgckaaGreatDoor
open Go.RowKit
def mkV (m:Mk):List Value:=[.string m.1,.int .i64 m.2]
def mks (l:List Mk):List Value:=l.flatMap mkV
theorem mks_length (l:List Mk):(mks l).length=2*l.length:=by
 rw [mks,flatMap_length _ 2 (fun _=>rfl)]
 omega
theorem mks_len {w:World} {B n:Nat} {A:Option Addr} {l:List Mk} (h:Reads w B 2 A n (mks l)):l.length=n:=by
 have:=h.1
 rw [mks_length] at this
 omega
theorem mks_append (l m:List Mk):mks (l++m)=mks l++mks m:=by simp [mks]
theorem mks_one (l:List Mk):∀ u∈mks l,u.oneCell'=true:=by
 intro u hu
 obtain ⟨p,-,hp⟩:=List.mem_flatMap.1 hu
 simp [mkV] at hp
 rcases hp with rfl | rfl<;>rfl
structure MkAt (w:World) (p:Addr) (m:Mk):Prop where
 c0:w.cell? p=some (.string m.1)
 c1:w.cell? ⟨p.block,p.off+1,none⟩=some (.int .i64 m.2)
theorem mks_at {w:World} {B n k:Nat} {A:Option Addr} {l:List Mk} (h:Reads w B 2 A n (mks l)) (hk:k<n):∃ ad m,A=some ad/\ad.block<B/\l[k]? = some m/\MkAt w (ad.add (k*2)) m:=by
 have hl:=mks_len h
 obtain ⟨ad,e,hb,hc⟩:=h.2 (by omega)
 have key:∀ j v,(mkV l[k])[j]? = some v->w.cell? ((ad.add (k*2)).add j)=some v:=fun j v hv=>by
  have hj:j<2:=(List.getElem?_eq_some_iff.1 hv).1
  rw [add_of_add]
  exact hc _ _ (by rw [mks,flatMap_at _ 2 (fun _=>rfl) l k j l[k] (List.getElem?_eq_getElem (by omega)) hj];exact hv)
 refine ⟨ad,l[k],e,hb,List.getElem?_eq_getElem (by omega),?_,?_⟩
 ·have:=key 0 _ rfl
  rwa [addc_zero] at this
 have:=key 1 _ rfl
 rwa [addc_pos _ _ (by decide)] at this
theorem MkAt.on {w w':World} {p:Addr} {m:Mk} {B:Nat} (h:MkAt w p m) (hb:Below B w w') (hp:p.block<B):MkAt w' p m:=
 ⟨(hb.cell hp).trans h.c0,(hb.cell (p:=⟨p.block,p.off+1,none⟩) hp).trans h.c1⟩
theorem ins_len {w:World} {B n:Nat} {A:Option Addr} {l:List Int} (h:Reads w B 1 A n (ins l)):l.length=n:=by
 have:=h.1
 simpa [ins] using this
theorem ins_at {w:World} {B n k:Nat} {A:Option Addr} {l:List Int} (h:Reads w B 1 A n (ins l)) (hk:k<n):∃ ad x,A=some ad/\ad.block<B/\l[k]? = some x/\w.cell? (ad.add k)=some (.int .i64 x):=by
 have hl:=ins_len h
 obtain ⟨ad,u,e,hb,h1,h2⟩:=h.at_ hk
 simp only [ins,List.getElem?_map,Option.map_eq_some_iff] at h1
 obtain ⟨x,h3,rfl⟩:=h1
 exact ⟨ad,x,e,hb,h3,h2⟩
structure ScAt (w:World) (CA:Option Addr) (cn:Nat) (KA:Option Addr) (kn:Nat) (s:Sc):Prop where
 cols:Reads w w.heap.size 7 CA cn (cos s.1)
 keys:Reads w w.heap.size 1 KA kn (ins s.2)
structure StAt (w:World) (MA:Option Addr) (mn:Nat) (RA:Option Addr) (rn:Nat) (LA:Option Addr) (ln:Nat) (ms:List Mk) (l:List It) (last:List UInt8):Prop where
 marks:Reads w w.heap.size 2 MA mn (mks ms)
 rows:ItemsAt w w.heap.size RA rn l
 last:Reads w w.heap.size 1 LA ln (u8s last)
section
variable {w w':World} {CA KA MA RA LA:Option Addr} {cn kn mn rn ln:Nat} {s:Sc} {ms:List Mk} {l:List It} {last:List UInt8}
theorem ScAt.on (h:ScAt w CA cn KA kn s) (hb:Below w.heap.size w w'):ScAt w' CA cn KA kn s:=⟨h.cols.on hb,h.keys.on hb⟩
theorem ScAt.al (h:ScAt w CA cn KA kn s) (o:Obj):ScAt (w.alloc o) CA cn KA kn s:=h.on (bal (Below.refl _ _) o)
theorem ScAt.drew (h:ScAt w CA cn KA kn s):ScAt w.drew CA cn KA kn s:=h.on (Below.refl _ _).drew
theorem StAt.on (h:StAt w MA mn RA rn LA ln ms l last) (hb:Below w.heap.size w w'):StAt w' MA mn RA rn LA ln ms l last:=⟨h.marks.on hb,h.rows.on hb,h.last.on hb⟩
theorem StAt.al (h:StAt w MA mn RA rn LA ln ms l last) (o:Obj):StAt (w.alloc o) MA mn RA rn LA ln ms l last:=h.on (bal (Below.refl _ _) o)
theorem StAt.drew (h:StAt w MA mn RA rn LA ln ms l last):StAt w.drew MA mn RA rn LA ln ms l last:=h.on (Below.refl _ _).drew
theorem StAt.nil (w:World):StAt w none 0 none 0 none 0 [] [] []:=⟨Reads.none_,ItemsAt.nil,Reads.none_⟩
end
end Go.Proofs.YtjpjalmilfgckaaGreatDoor
namespace Go.Proofs
open Go.Shelf
def Tryz.laysTrim_ren:Go.Shelf.Ren:=⟨fun | 119=>317 | 120=>291 | 137=>257 | 151=>264 | 152=>290 | 160=>181 | 197=>263 | 217=>284 | 224=>318 | 225=>319 | 227=>235 | 228=>262 | 231=>233 | 232=>234 | 233=>236 | 234=>237 | 235=>238 | 236=>239 | 260=>289 | 266=>312 | 271=>265 | n=>n,fun | 0=>0 | 3=>3 | 4=>4 | 5=>5 | 9=>9 | 21=>21 | 46=>86 | 105=>303 | 116=>270 | 117=>271 | 119=>315 | 124=>274 | 138=>317 | 139=>318 | n=>n,fun | 3=>2 | 4=>3 | n=>n⟩
theorem Tryz.laysTrim:Go.Proofs.Lays.n160 Tryz.prog Tryz.laysTrim_ren:={
 mixed:=by kernel_rfl
 f119:=Tryz.func317.trans (congrArg some (by kernel_rfl))
 f120:=Tryz.func291.trans (congrArg some (by kernel_rfl))
 f137:=Tryz.func257.trans (congrArg some (by kernel_rfl))
 f151:=Tryz.func264.trans (congrArg some (by kernel_rfl))
 f152:=Tryz.func290.trans (congrArg some (by kernel_rfl))
 f160:=Tryz.func181.trans (congrArg some (by kernel_rfl))
 f197:=Tryz.func263.trans (congrArg some (by kernel_rfl))
 f217:=Tryz.func284.trans (congrArg some (by kernel_rfl))
 f224:=Tryz.func318.trans (congrArg some (by kernel_rfl))
 f225:=Tryz.func319.trans (congrArg some (by kernel_rfl))
 f227:=Tryz.func235.trans (congrArg some (by kernel_rfl))
 f228:=Tryz.func262.trans (congrArg some (by kernel_rfl))
 f231:=Tryz.func233.trans (congrArg some (by kernel_rfl))
 f232:=Tryz.func234.trans (congrArg some (by kernel_rfl))
 f233:=Tryz.func236.trans (congrArg some (by kernel_rfl))
 f234:=Tryz.func237.trans (congrArg some (by kernel_rfl))
 f235:=Tryz.func238.trans (congrArg some (by kernel_rfl))
 f236:=Tryz.func239.trans (congrArg some (by kernel_rfl))
 f260:=Tryz.func289.trans (congrArg some (by kernel_rfl))
 f266:=Tryz.func312.trans (congrArg some (by kernel_rfl))
 f271:=Tryz.func265.trans (congrArg some (by kernel_rfl))
 t0:=Tryz.underlying0
 a0:=Tryz.isAgg0
 z0:=Tryz.sizeOf0
 v0:=Tryz.zeroValue0
 t3:=Tryz.underlying3
 a3:=Tryz.isAgg3
 z3:=Tryz.sizeOf3
 v3:=Tryz.zeroValue3
 t4:=Tryz.underlying4
 a4:=Tryz.isAgg4
 z4:=Tryz.sizeOf4
 v4:=Tryz.zeroValue4
 t5:=Tryz.underlying5
 a5:=Tryz.isAgg5
 z5:=Tryz.sizeOf5
 v5:=Tryz.zeroValue5
 t9:=Tryz.underlying9
 a9:=Tryz.isAgg9
 z9:=Tryz.sizeOf9
 v9:=Tryz.zeroValue9
 t21:=Tryz.underlying21
 a21:=Tryz.isAgg21
 z21:=Tryz.sizeOf21
 v21:=Tryz.zeroValue21
 t46:=Tryz.underlying86
 a46:=Tryz.isAgg86
 z46:=Tryz.sizeOf86
 v46:=Tryz.zeroValue86
 t105:=Tryz.underlying303
 a105:=Tryz.isAgg303
 z105:=Tryz.sizeOf303
 v105:=Tryz.zeroValue303
 t116:=Tryz.underlying270
 a116:=Tryz.isAgg270
 z116:=Tryz.sizeOf270
 t117:=Tryz.underlying271
 a117:=Tryz.isAgg271
 z117:=Tryz.sizeOf271
 v117:=Tryz.zeroValue271
 t119:=Tryz.underlying315
 a119:=Tryz.isAgg315
 z119:=Tryz.sizeOf315
 t124:=Tryz.underlying274
 a124:=Tryz.isAgg274
 z124:=Tryz.sizeOf274
 v124:=Tryz.zeroValue274
 t138:=Tryz.underlying317
 a138:=Tryz.isAgg317
 z138:=Tryz.sizeOf317
 v138:=Tryz.zeroValue317
 t139:=Tryz.underlying318
 a139:=Tryz.isAgg318
 z139:=Tryz.sizeOf318
 v139:=Tryz.zeroValue318
 g3:=by kernel_rfl
 g4:=by kernel_rfl }
end Go.Proofs
namespace Go.Proofs
open Go.Shelf
def Tryz.laysHas_ren:Go.Shelf.Ren:=⟨fun | 15=>240 | 17=>182 | 20=>266 | n=>n,fun | 0=>0 | 3=>3 | 4=>4 | 9=>9 | 21=>21 | 23=>230 | n=>n,fun  | n=>n⟩
theorem Tryz.laysHas:Go.Proofs.LaysGw.n17 Tryz.prog Tryz.laysHas_ren:={
 mixed:=by kernel_rfl
 f15:=Tryz.func240.trans (congrArg some (by kernel_rfl))
 f17:=Tryz.func182.trans (congrArg some (by kernel_rfl))
 f20:=Tryz.func266.trans (congrArg some (by kernel_rfl))
 t0:=Tryz.underlying0
 a0:=Tryz.isAgg0
 z0:=Tryz.sizeOf0
 v0:=Tryz.zeroValue0
 i0:=by kernel_rfl
 t3:=Tryz.underlying3
 a3:=Tryz.isAgg3
 z3:=Tryz.sizeOf3
 v3:=Tryz.zeroValue3
 i3:=by kernel_rfl
 t4:=Tryz.underlying4
 a4:=Tryz.isAgg4
 z4:=Tryz.sizeOf4
 v4:=Tryz.zeroValue4
 i4:=by kernel_rfl
 t9:=Tryz.underlying9
 a9:=Tryz.isAgg9
 z9:=Tryz.sizeOf9
 v9:=Tryz.zeroValue9
 i9:=by kernel_rfl
 t21:=Tryz.underlying21
 a21:=Tryz.isAgg21
 z21:=Tryz.sizeOf21
 v21:=Tryz.zeroValue21
 i21:=by kernel_rfl
 t23:=Tryz.underlying230
 a23:=Tryz.isAgg230
 z23:=Tryz.sizeOf230
 v23:=Tryz.zeroValue230
 i23:=by kernel_rfl }
end Go.Proofs
namespace Go.Proofs.YtjpjalmilfgckaaGreatDoor
open Go.RowKit
theorem nm_len (s:ByteArray):s.data.toList.length=s.size:=by rw [Array.length_toList];rfl
theorem nm_at (s:ByteArray) (i:Nat) (h:i<s.size):s.data.toList[i]? = some s[i]:=by
 rw [Array.getElem?_toList]
 exact Array.getElem?_eq_getElem h
theorem nm_get (s:ByteArray) (i:Nat) (h:i<s.size):s.data.toList[i]? = some (s.get! i):=by
 rw [nm_at s i h]
 show some (s.data[i]'h)=some (s.data[i]!)
 rw [getElem!_pos s.data i h]
theorem nm_empty {s:ByteArray} (h:0<s.size):s.toList.isEmpty=false:=by
 rw [Lib.toList_data]
 have:=nm_len s
 cases hl:s.data.toList with
 | nil=>rw [hl] at this;simp at this;omega
 | cons c l=>rfl
theorem trim_any (s:ByteArray) (w:World) (hs:s.size<=9223372036854775807) :
  Calls Tryz.prog 181 #[.string s,.string ⟨#[97,98,99,100,101,102,103,104,105,106,107,108,109,110,111,112,113,114,115,116,117,118,119,120,121,122,48,49,50,51,52,53,54,55,56,57,95]⟩] w fun e w'=>e=.returned (.string ⟨(Lib.trimS s.data.toList nameS).toArray⟩)/\Below w.heap.size w w':=
 Any.strings_Trim_laid Tryz.laysTrim (by kernel_rfl) s ⟨#[97,98,99,100,101,102,103,104,105,106,107,108,109,110,111,112,113,114,115,116,117,118,119,120,121,122,48,49,50,51,52,53,54,55,56,57,95]⟩ w hs (by decide) (ascii_of_all (by decide))
def oddR (r:Nat):Bool:=((decide (r<97)||decide (122<r))&&(decide (r<48)||decide (57<r)))&&decide (r≠95)
theorem oddR_not {c:UInt8} (h:nameC c=true):oddR c.toNat=false:=by
 unfold nameC at h
 unfold oddR
 simp only [Bool.or_eq_true,decide_eq_true_eq] at h
 rcases h with (h | h) | h
 ·simp [show ¬c.toNat<97 by omega,show ¬122<c.toNat by omega]
 ·simp [show ¬c.toNat<48 by omega,show ¬57<c.toNat by omega]
 simp [h]
theorem odd_any (r:Nat) (w:World):Calls Tryz.prog 183 #[.int .i32 (r:Int)] w fun e w'=>e=.returned (.bool (oddR r))/\w'=w:=by
 have e1:decide ((r:Int)<97)=decide (r<97):=by congr 1;exact propext ⟨fun h=>by omega,fun h=>by omega⟩
 have e2:decide (122<(r:Int))=decide (122<r):=by congr 1;exact propext ⟨fun h=>by omega,fun h=>by omega⟩
 have e3:decide ((r:Int)<48)=decide (r<48):=by congr 1;exact propext ⟨fun h=>by omega,fun h=>by omega⟩
 have e4:decide (57<(r:Int))=decide (57<r):=by congr 1;exact propext ⟨fun h=>by omega,fun h=>by omega⟩
 have e5:((r:Int) != 95)=decide (r≠95):=by
  by_cases h:r=95
  ·subst h;rfl
  rw [decide_eq_true h];simp;omega
 have hO:=Lib.hid (show oddR r=(((decide (r<97)||decide (122<r))&&(decide (r<48)||decide (57<r)))&&decide (r≠95)) from rfl)
 generalize decide (r<97)=b1 at *
 generalize decide (122<r)=b2 at *
 generalize decide (r<48)=b3 at *
 generalize decide (57<r)=b4 at *
 generalize decide (r≠95)=b5 at *
 go_enter Tryz.func183,Tryz.ntmps183
 cases b1<;>cases b2<;>cases b3<;>cases b4<;>cases b5<;>(go_wp2;go_ret;exact ⟨by rw [hO.out];rfl,rfl⟩)
theorem idx_none (p:Nat->Bool) (s:ByteArray) (h:∀ i,i<s.size->(s.get! i).toNat<128/\p (s.get! i).toNat=false):∀ f pos,Lib.idxFuncFrom p true s f pos = -1
 | 0,_=>rfl
 | f+1,pos=>by
  unfold Lib.idxFuncFrom
  split
  ·rename_i hp
   obtain ⟨h1,h2⟩:=h pos hp
   rw [Lib.decode_at,show Lib.decodeN (s.size-pos) (s.get! pos).toNat (s.get! (pos+1)).toNat (s.get! (pos+2)).toNat (s.get! (pos+3)).toNat=((s.get! pos).toNat,1) from by simp [Lib.decodeN,h1],h2,if_neg (by simp)]
   exact idx_none p s h f _
  rfl
theorem hasf_any (s:ByteArray) (w:World) (h:s.data.toList.all nameC=true) :
  Calls Tryz.prog 182 #[.string s,.func (.func 183) #[] #[]] w fun e w'=>e=.returned (.bool false)/\Below w.heap.size w w':=by
 have key:=Any.strings_ContainsFunc Tryz.laysHas 183 #[] (enters_of Tryz.func183 (by kernel_rfl) rfl) oddR s w (fun W r _=>by
  unfold FnGives
  exact (odd_any r W).mono fun e w' ⟨h1,h2⟩=>⟨h1,0,h2⟩)
 have hn:Lib.idxFunc oddR true s = -1:=idx_none oddR s (fun i hi=>by
  have hm:=List.all_eq_true.1 h _ (List.mem_of_getElem? (nm_get s i hi))
  exact ⟨nameC_ascii hm,oddR_not hm⟩) _ _
 rw [hn] at key
 exact key
theorem emp_not {t:ByteArray} (h:t.size≠0):t.toList.isEmpty=false:=nm_empty (by omega)
theorem emp_yes {t:ByteArray} (h:t.size=0):t.toList.isEmpty=true:=by
 rw [Lib.toList_data]
 have:=nm_len t
 rw [h] at this
 rw [List.eq_nil_of_length_eq_zero this]
 rfl
theorem isn_eq (s:ByteArray) (h0:0<s.size) (h1:s.size<=32) (h2:97<=s[0].toNat) (h3:s[0].toNat<=122):nameB s=s.data.toList.all nameC:=by
 unfold nameB
 have hl:=nm_len s
 have hg:s.data.toList.getD 0 0=s[0]:=by rw [List.getD_eq_getElem?_getD,nm_at s 0 h0];rfl
 rw [nameL_eq,hl,hg,decide_eq_true h0,decide_eq_true h1,decide_eq_true ⟨h2,h3⟩]
 simp
theorem isn_no (s:ByteArray) (h:s.size=0\/32<s.size\/∃ h0:0<s.size,s[0].toNat<97\/122<s[0].toNat):nameB s=false:=by
 unfold nameB
 have hl:=nm_len s
 rw [nameL_eq,hl]
 rcases h with h | h | ⟨h0,h⟩
 ·rw [decide_eq_false (by omega)];simp
 ·rw [decide_eq_false (p:=s.size<=32) (by omega)];simp
 have hg:s.data.toList.getD 0 0=s[0]:=by rw [List.getD_eq_getElem?_getD,nm_at s 0 h0];rfl
 rw [hg,decide_eq_false (p:=97<=s[0].toNat/\s[0].toNat<=122) (by omega)];simp
set_option maxHeartbeats 1000000 in
theorem isn_any (s:ByteArray) (w:World) (hs:s.size<=maxLen) :
  Calls Tryz.prog 130 #[.string s] w fun e w'=>e=.returned (.bool (nameB s))/\Below w.heap.size w w':=by
 have hs2:s.size<=9223372036854775807:=by simp only [maxLen] at hs;omega
 by_cases h0:s.size=0
 ·have hN:=Lib.hid (isn_no s (.inl h0))
  have e1:=emp_yes h0
  clear h0 hs hs2
  go_enter Tryz.func130,Tryz.ntmps130
  go_wp2
  go_ret
  exact ⟨by rw [hN.out];rfl,Below.refl _ _⟩
 have h0p:0<s.size:=by omega
 have e1:=emp_not h0
 by_cases h1:32<s.size
 ·have hN:=Lib.hid (isn_no s (.inr (.inl h1)))
  have e2:decide (32<(s.size:Int))=true:=by simp;omega
  clear h0 hs
  go_enter Tryz.func130,Tryz.ntmps130
  go_wp2
  go_ret
  exact ⟨by rw [hN.out];rfl,Below.refl _ _⟩
 have e2:decide (32<(s.size:Int))=false:=by simp;omega
 obtain ⟨c,hc⟩:∃ c,s[0]'h0p=c:=⟨_,rfl⟩
 by_cases h2:97<=c.toNat/\c.toNat<=122
 ·have e3:decide ((c.toNat:Int)<97)=false:=by simp;omega
  have e4:decide (122<(c.toNat:Int))=false:=by simp;omega
  have hE:=Lib.hid (isn_eq s h0p (by omega) (by rw [hc];exact h2.1) (by rw [hc];exact h2.2))
  have hT:=trim_nil s.data.toList
  obtain ⟨t,ht⟩:∃ t:ByteArray,t=⟨(Lib.trimS s.data.toList nameS).toArray⟩:=⟨_,rfl⟩
  have hts:t.size=(Lib.trimS s.data.toList nameS).length:=by rw [ht];simp [<-ByteArray.size_data]
  rw [<-hts] at hT
  have HK:=Lib.hid (trim_any s w hs2)
  rw [<-ht] at HK
  clear ht hts h0 h1 h2 hs
  by_cases ha:s.data.toList.all nameC=true
  ·have e5:=emp_yes (hT.2 ha)
   have HA:=Lib.hid ha
   clear hT ha
   go_enter Tryz.func130,Tryz.ntmps130
   go_wp2_with fail
   with_reducible refine HK.out.mono ?_
   rintro e w1 ⟨rfl,hb⟩
   have HB:=Lib.hid hb
   clear hb
   go_wp2_with fail
   with_reducible refine (hasf_any s _ HA.out).mono ?_
   rintro e w2 ⟨rfl,hb⟩
   have HB:=Lib.hid (bon HB.out hb)
   clear hb
   go_wp2
   go_ret
   exact ⟨by rw [hE.out,HA.out];rfl,HB.out⟩
  have e5:=emp_not (fun h=>ha (hT.1 h))
  have HA:=Lib.hid (show s.data.toList.all nameC=false by simpa using ha)
  clear hT ha
  go_enter Tryz.func130,Tryz.ntmps130
  go_wp2_with fail
  with_reducible refine HK.out.mono ?_
  rintro e w1 ⟨rfl,hb⟩
  have HB:=Lib.hid hb
  clear hb
  go_wp2
  go_ret
  exact ⟨by rw [hE.out,HA.out];rfl,HB.out⟩
 have hN:=Lib.hid (isn_no s (.inr (.inr ⟨h0p,by rw [hc];omega⟩)))
 by_cases h3:c.toNat<97
 ·have e3:decide ((c.toNat:Int)<97)=true:=by simp;omega
  clear h0 h1 h2 hs h3
  go_enter Tryz.func130,Tryz.ntmps130
  go_wp2
  go_ret
  exact ⟨by rw [hN.out];rfl,Below.refl _ _⟩
 have e3:decide ((c.toNat:Int)<97)=false:=by simp;omega
 have e4:decide (122<(c.toNat:Int))=true:=by simp;omega
 clear h0 h1 h2 hs h3
 go_enter Tryz.func130,Tryz.ntmps130
 go_wp2
 go_ret
 exact ⟨by rw [hN.out];rfl,Below.refl _ _⟩
end Go.Proofs.YtjpjalmilfgckaaGreatDoor
namespace Go.Proofs.YtjpjalmilfgckaaGreatDoor
open Go.RowKit
theorem cmpi_any (x y:Int) (w:World):Calls Tryz.prog 288 #[.int .i64 x,.int .i64 y] w fun e w'=>e=.returned (.int .i64 (Lib.compareInt x y))/\w'=w:=by
 go_enter Tryz.func288,Tryz.ntmps288
 go_wp2
 all_goals (go_ret;refine ⟨?_,rfl⟩;unfold Lib.compareInt;(repeat' split)<;>first | rfl | (exfalso;omega))
theorem cmpl_any (x y:Int) (w:World):Calls Tryz.prog 314 #[.int .i64 x,.int .i64 y] w fun e w'=>e=.returned (.int .i64 (Lib.compareInt x y))/\w'=w:=by
 go_enter Tryz.func314,Tryz.ntmps314
 go_wp2
 all_goals (go_ret;refine ⟨?_,rfl⟩;unfold Lib.compareInt;(repeat' split)<;>first | rfl | (exfalso;omega))
set_option maxHeartbeats 1000000 in
theorem cmpb_any (a b:ByteArray) (w:World):Calls Tryz.prog 337 #[.string a,.string b] w fun e w'=>e=.returned (.int .i64 (Lib.compareBytes a.data.toList b.data.toList))/\w'=w:=by
 go_enter Tryz.func337,Tryz.ntmps337
 go_wp2
 rw [run_callFunc_extern Tryz.func343 (by kernel_rfl) (by kernel_rfl) (by kernel_rfl) (e:=Extern.BytealgCompare.compare) (by kernel_rfl),Lib.run_compareString]
 simp only [Result.andThen]
 rw [Oper.upon_value]
 go_wp2
 go_ret
 exact ⟨rfl,rfl⟩
theorem cmps_any (a b:ByteArray) (w:World):Calls Tryz.prog 315 #[.string a,.string b] w fun e w'=>e=.returned (.int .i64 (Lib.compareBytes a.data.toList b.data.toList))/\w'=w:=by
 go_enter Tryz.func315,Tryz.ntmps315
 go_wp2_with fail
 with_reducible refine (cmpb_any a b _).mono ?_
 rintro e w1 ⟨rfl,rfl⟩
 go_wp2
 go_ret
 exact ⟨rfl,rfl⟩
theorem cor_any (g:Nat) (x y:Int) (w:World) (h:Blk w g 3 #[.int .i64 x,.int .i64 y]):Calls Tryz.prog 313 #[.slice (some ⟨g,0,none⟩) 2 2] w fun e w'=>e=.returned (.int .i64 (if x≠0 then x else y))/\w'=w:=by
 have c0:=h.cell 0
 have c1:=h.cell 1
 clear h
 by_cases hx:x=0
 ·subst hx
  rw [if_neg (by simp)]
  by_cases hy:y=0
  ·subst hy
   go_enter Tryz.func313,Tryz.ntmps313
   go_wp2
   refine wp_loop_rounds 3 ?_
   rw [rounds_succ]
   go_wp2
   rw [rounds_succ]
   go_wp2
   rw [rounds_succ]
   go_wp2
   go_ret
   exact ⟨rfl,rfl⟩
  have hn:(y != 0)=true:=by simpa using hy
  go_enter Tryz.func313,Tryz.ntmps313
  go_wp2
  refine wp_loop_rounds 2 ?_
  rw [rounds_succ]
  go_wp2
  rw [rounds_succ]
  go_wp2
  go_ret
  exact ⟨rfl,rfl⟩
 have hn:(x != 0)=true:=by simpa using hx
 rw [if_pos hx]
 go_enter Tryz.func313,Tryz.ntmps313
 go_wp2
 refine wp_loop_rounds 1 ?_
 rw [rounds_succ]
 go_wp2
 go_ret
 exact ⟨rfl,rfl⟩
set_option maxHeartbeats 1000000 in
theorem ccmp_any (u:Bool) (x:Int) (s:ByteArray) (v:Bool) (y:Int) (t:ByteArray) (w:World) :
  Calls Tryz.prog 287 #[.agg #[.bool u,.int .i64 x,.string s],.agg #[.bool v,.int .i64 y,.string t]] w fun e w'=>e=.returned (.int .i64 (cmpCl (u,x,s) (v,y,t)))/\Below w.heap.size w w':=by
 have HB:=Lib.hid (bal (bal (Below.refl w.heap.size w) (.cells #[.bool u,.int .i64 x,.string s] 23)) (.cells #[.bool v,.int .i64 y,.string t] 23))
 have H1:=Lib.hid ((Blk.new w 23 #[.bool u,.int .i64 x,.string s]).alloc (.cells #[.bool v,.int .i64 y,.string t] 23))
 have H2:=Lib.hid (Blk.new (w.alloc (.cells #[.bool u,.int .i64 x,.string s] 23)) 23 #[.bool v,.int .i64 y,.string t])
 rw [show (w.alloc (.cells #[.bool u,.int .i64 x,.string s] 23)).heap.size=w.heap.size+1 by simp] at H2
 by_cases huv:u=v
 ·subst huv
  obtain ⟨q1,hq1⟩:∃ q,Lib.compareInt x y=q:=⟨_,rfl⟩
  obtain ⟨q2,hq2⟩:∃ q,Lib.compareBytes s.data.toList t.data.toList=q:=⟨_,rfl⟩
  obtain ⟨q3,hq3⟩:∃ q,(if q1≠0 then q1 else q2)=q:=⟨_,rfl⟩
  have HC:=Lib.hid (show cmpCl (u,x,s) (u,y,t)=q3 by unfold cmpCl;rw [if_pos rfl,hq1,hq2,hq3])
  have HK:=Lib.hid (fun g w h=>hq3 ▸ cor_any g q1 q2 w h)
  clear hq3
  have Hq1:=Lib.hid hq1
  have Hq2:=Lib.hid hq2
  clear hq1 hq2
  have e1:(u==u)=true:=by simp
  go_enter Tryz.func287,Tryz.ntmps287
  go_wp2
  generalize (w.alloc (.cells #[.bool u,.int .i64 x,.string s] 23)).alloc (.cells #[.bool u,.int .i64 y,.string t] 23)=W at *
  have L1:=Lib.hid (show ∀ w',Below W.heap.size W w'->w'.cell? ⟨w.heap.size,1,none⟩=some (.int .i64 x) from fun w' h=>(H1.out.on h).cell 1)
  have L2:=Lib.hid (show ∀ w',Below W.heap.size W w'->w'.cell? ⟨w.heap.size,2,none⟩=some (.string s) from fun w' h=>(H1.out.on h).cell 2)
  have M1:=Lib.hid (show ∀ w',Below W.heap.size W w'->w'.cell? ⟨w.heap.size+1,1,none⟩=some (.int .i64 y) from fun w' h=>(H2.out.on h).cell 1)
  have M2:=Lib.hid (show ∀ w',Below W.heap.size W w'->w'.cell? ⟨w.heap.size+1,2,none⟩=some (.string t) from fun w' h=>(H2.out.on h).cell 2)
  have hS:Below W.heap.size W W.drew:=(Below.refl _ _).drew
  clear H1 H2
  refine hR (fun w'=>Below W.heap.size W w') [ff 0,ff 1,ff 2,ff 3,ff 5,ff 6,ff 7,ff 8,tt 4,tt 9,tt 10,tt 11,ff 12] ?_
  refine hP hS ?_
  refine hP1 hS L1.out ?_
  refine hP hS ?_
  refine hP1 hS M1.out ?_
  refine hP hS ?_
  refine hP1 hS L2.out ?_
  refine hP hS ?_
  refine hP1 hS M2.out ?_
  refine hE fun K hK=>?_
  go_simp
  with_reducible refine (cmpl_any x y _).mono ?_
  rintro e w2 ⟨rfl,rfl⟩
  rw [Hq1.out]
  refine held_go hK hS fun hS=>?_
  clear hK K
  try simp only [zp]
  refine hE fun K hK=>?_
  go_simp
  with_reducible refine (cmps_any s t _).mono ?_
  rintro e w3 ⟨rfl,rfl⟩
  rw [Hq2.out]
  refine held_go hK hS fun hS=>?_
  clear hK K
  try simp only [zp]
  have HN:=Lib.hid (Blk.new W 3 #[.int .i64 q1,.int .i64 q2])
  refine hE fun K hK=>?_
  go_simp
  refine held_go hK (by exact (bal (Below.refl _ _) _).drew) fun hS=>?_
  clear hK K
  try simp only [zp]
  refine hE fun K hK=>?_
  go_simp
  with_reducible refine (HK.out W.heap.size _ (by exact HN.out.drew)).mono ?_
  rintro e w4 ⟨rfl,rfl⟩
  refine held_go hK hS fun hS=>?_
  clear hK K
  try simp only [zp]
  refine hP hS ?_
  refine held_end ?_
  go_wp2
  go_ret
  exact ⟨by rw [HC.out];rfl,bon HB.out hS⟩
 have e1:(u==v)=false:=by simpa using huv
 have HC:=Lib.hid (show cmpCl (u,x,s) (v,y,t)=if u then -1 else 1 by unfold cmpCl;rw [if_neg huv])
 clear H1 H2 huv
 cases u with
 | true=>
  go_enter Tryz.func287,Tryz.ntmps287
  go_wp2
  go_ret
  exact ⟨by rw [HC.out];rfl,HB.out⟩
 | false=>
  go_enter Tryz.func287,Tryz.ntmps287
  go_wp2
  go_ret
  exact ⟨by rw [HC.out];rfl,HB.out⟩
end Go.Proofs.YtjpjalmilfgckaaGreatDoor
namespace Go.Proofs.YtjpjalmilfgckaaGreatDoor
open Go.RowKit
theorem lessB_toList (a b:ByteArray):Go.Op.bytesLess a.toList b.toList=lessB a b:=by unfold lessB;rw [Lib.toList_data,Lib.toList_data]
set_option maxHeartbeats 2000000 in
theorem rwcmp_any (A B:Option Addr) (n c m d:Nat) (l1 l2:List Cl) (w:World) (h1:Reads w w.heap.size 3 A n (cls l1)) (h2:Reads w w.heap.size 3 B m (cls l2)) (hn:n<=maxLen) :
  Calls Tryz.prog 261 #[.slice A n c,.slice B m d] w fun e w'=>e=.returned (.int .i64 (cmpR l1 l2))/\Below w.heap.size w w':=by
 obtain ⟨q,hq⟩:∃ q,q=min n m:=⟨_,rfl⟩
 have hqi:min (n:Int) (m:Int)=(q:Int):=by omega
 have H1:=Lib.hid h1
 have H2:=Lib.hid h2
 have hl1:=cls_len h1
 have hl2:=cls_len h2
 have HE:=Lib.hid (show cmpR (l1.drop q) (l2.drop q)=Lib.compareInt (n:Int) (m:Int) by rw [cmpR_end (by omega),hl1,hl2])
 have hn63:n<=9223372036854775807:=by simp only [maxLen] at hn;omega
 have hqn:q<=n:=by omega
 have hqm:q<=m:=by omega
 have Hq:=Lib.hid hq
 clear h1 h2 hl1 hl2 hn hq
 go_enter Tryz.func261,Tryz.ntmps261
 go_wp2
 go_loopw [12] (fun kv wr=>∃ k:Nat,k<=q/\kv=.int .i64 (k:Int)/\Hid (cmpR l1 l2=cmpR (l1.drop k) (l2.drop k))/\Hid (Below w.heap.size w wr)) (fun kv _=>q-(intOf kv).toNat)
 case atStart=>exact ⟨0,Nat.zero_le _,rfl,Lib.hid rfl,Lib.hid (Below.refl _ _)⟩
 case round=>
  obtain ⟨k,hk,rfl,HR,HB⟩:=hrel
  by_cases hlt:k<q
  ·have d1:decide ((k:Int)<(q:Int))=true:=by simp;omega
   obtain ⟨ad,u,x,s,rfl,hbk,hx,a0,a1,a2⟩:=cls_at (H1.out.below HB.out) (k:=k) (by omega)
   obtain ⟨ad',v,y,t,rfl,hbk',hx',b0,b1,b2⟩:=cls_at (H2.out.below HB.out) (k:=k) (by omega)
   have LA0:=Lib.hid (show ∀ w',Below wr.heap.size wr w'->w'.cell? (ad.add (k*3))=some (.bool u) from fun w' h=>(h.cell (World.block_lt_of_cell? _ _ a0)).trans a0)
   have LA1:=Lib.hid (show ∀ w',Below wr.heap.size wr w'->w'.cell? ⟨(ad.add (k*3)).block,(ad.add (k*3)).off+1,none⟩=some (.int .i64 x) from fun w' h=>(h.cell (World.block_lt_of_cell? _ _ a1)).trans a1)
   have LA2:=Lib.hid (show ∀ w',Below wr.heap.size wr w'->w'.cell? ⟨(ad.add (k*3)).block,(ad.add (k*3)).off+2,none⟩=some (.string s) from fun w' h=>(h.cell (World.block_lt_of_cell? _ _ a2)).trans a2)
   have LB0:=Lib.hid (show ∀ w',Below wr.heap.size wr w'->w'.cell? (ad'.add (k*3))=some (.bool v) from fun w' h=>(h.cell (World.block_lt_of_cell? _ _ b0)).trans b0)
   have LB1:=Lib.hid (show ∀ w',Below wr.heap.size wr w'->w'.cell? ⟨(ad'.add (k*3)).block,(ad'.add (k*3)).off+1,none⟩=some (.int .i64 y) from fun w' h=>(h.cell (World.block_lt_of_cell? _ _ b1)).trans b1)
   have LB2:=Lib.hid (show ∀ w',Below wr.heap.size wr w'->w'.cell? ⟨(ad'.add (k*3)).block,(ad'.add (k*3)).off+2,none⟩=some (.string t) from fun w' h=>(h.cell (World.block_lt_of_cell? _ _ b2)).trans b2)
   obtain ⟨q9,hq9⟩:∃ q9,cmpCl (u,x,s) (v,y,t)=q9:=⟨_,rfl⟩
   have HS:=Lib.hid (show cmpR l1 l2=if q9=0 then cmpR (l1.drop (k+1)) (l2.drop (k+1)) else q9 by rw [HR.out,cmpR_step hx hx',hq9])
   have Hq9:=Lib.hid hq9
   have hkn:(k:Int)<(n:Int):=by omega
   have hkm:(k:Int)<(m:Int):=by omega
   clear hx hx' hbk hbk' a0 a1 a2 b0 b1 b2 hq9
   go_wp2
   have hS:Below wr.heap.size wr wr.drew:=(Below.refl _ _).drew
   refine hR (fun w'=>Below wr.heap.size wr w') [ff 0,ff 1,ff 2,ff 3,ff 4,ff 5,ff 6,ff 7,tt 8,ff 9] ?_
   iterate 3
    refine hP hS ?_
   refine hP3 hS LA0.out LA1.out LA2.out ?_
   iterate 3
    refine hP hS ?_
   refine hP3 hS LB0.out LB1.out LB2.out ?_
   refine hE fun K hK=>?_
   go_simp
   with_reducible refine (ccmp_any u x s v y t _).mono ?_
   rintro e w5 ⟨rfl,hb5⟩
   rw [Hq9.out]
   have HB5:=Lib.hid (bon HB.out (bon hS hb5))
   refine held_go hK (by exact bon hS hb5) fun hS=>?_
   clear hK K
   try simp only [zp]
   clear hb5
   refine hP hS ?_
   refine held_end ?_
   clear hS LA0 LA1 LA2 LB0 LB1 LB2
   by_cases h9:q9=0
   ·have d9:(q9 != 0)=false:=by simpa using h9
    have HR5:=Lib.hid (show cmpR l1 l2=cmpR (l1.drop (k+1)) (l2.drop (k+1)) by rw [HS.out,if_pos h9])
    subst h9
    go_wp2
    go_roundw
    case rel=>exact ⟨k+1,by omega,by go_num,HR5,HB5⟩
    case measure=>simp [intOf];omega
   have d9:(q9 != 0)=true:=by simpa using h9
   have HR5:=Lib.hid (show cmpR l1 l2=q9 by rw [HS.out,if_neg h9])
   clear h9
   go_wp2
   go_ret
   exact ⟨by rw [HR5.out];rfl,HB5.out⟩
  have d1:decide ((k:Int)<(q:Int))=false:=by simp;omega
  have HE2:=Lib.hid (show cmpR l1 l2=Lib.compareInt (n:Int) (m:Int) by rw [HR.out,show k=q by omega,HE.out])
  go_wp2_with fail
  with_reducible refine (cmpi_any (n:Int) (m:Int) _).mono ?_
  rintro e w5 ⟨rfl,rfl⟩
  go_wp2
  go_ret
  exact ⟨by rw [HE2.out];rfl,HB.out⟩
end Go.Proofs.YtjpjalmilfgckaaGreatDoor
namespace Go.Proofs.YtjpjalmilfgckaaGreatDoor
open Go.RowKit
abbrev thr (E:Int):Ending:=.panicked [{ v:=.iface 137 (.int .i64 E),recovered:=false }]
def endN (E:Int):Ending:=if E=0 then .returned (.tuple #[]) else thr E
theorem endN_zero:endN 0=.returned (.tuple #[]):=rfl
theorem endN_not {E:Int} (h:E≠0):endN E=thr E:=if_neg h
theorem need_yes (E:Int) (w:World):Calls Tryz.prog 95 #[.bool true,.int .i64 E] w fun e w'=>e=.returned (.tuple #[])/\w=w':=by
 go_enter Tryz.func95,Tryz.ntmps95
 go_wp2
 go_end0
 exact ⟨rfl,rfl⟩
theorem need_no (E:Int) (w:World):Calls Tryz.prog 95 #[.bool false,.int .i64 E] w fun e w'=>e=thr E/\w=w':=by
 go_enter Tryz.func95,Tryz.ntmps95
 go_wp2
 exact ⟨rfl,rfl,rfl⟩
theorem must_yes (w:World):Calls Tryz.prog 43 #[.int .i64 0] w fun e w'=>e=.returned (.tuple #[])/\w=w':=by
 go_enter Tryz.func43,Tryz.ntmps43
 go_wp2
 go_end0
 exact ⟨rfl,rfl⟩
theorem must_no (E:Int) (hE:E≠0) (w:World):Calls Tryz.prog 43 #[.int .i64 E] w fun e w'=>e=thr E/\w=w':=by
 have d:(E != 0)=true:=by simpa using hE
 clear hE
 go_enter Tryz.func43,Tryz.ntmps43
 go_wp2
 exact ⟨rfl,rfl,rfl⟩
theorem run_wrong (x:Value) (w:World):(Instr.typeAssert (.iface 137 x) 20 137 true).run Tryz.prog w=.ok (.tuple #[x,.bool true]) w:=by
 simp only [Instr.typeAssert,Sem.run_bind,run_underlying Tryz.underlying137,Result.andThen_ok]
 rfl
theorem recov_idle (p:Addr) (w:World) :
  CallsD Tryz.prog 101 #[.pointer (some p)] .returning w fun e u' w'=>e=.returned (.tuple #[])/\u'=.returning/\w'=w:=by
 refine callsD_of_wpS Tryz.func101 rfl fun c₀ cs hu=>?_
 simp only [Tryz.ntmps101,List.size_toArray,List.length_cons,List.length_nil,Nat.reduceAdd,Nat.reduceSub,Array.replicate_succ,Array.replicate_zero,List.push_toArray,List.append_toArray,List.nil_append,List.cons_append]
 apply wpS_seq
 apply wpS_region
 simp [wpOpsS,go_sem,recoverD,hu,Exit.thenS]
 refine wpS_of_wp ?_
 go_wp2
 cases c₀
 simp_all [bodyPostS,results,Tryz.results101]
theorem recov_wrong (p:Addr) (x E:Int) (w:World) (hc:w.cell? p=some (.int .i64 x)) (hz:w.frozen? p=false) :
  CallsD Tryz.prog 101 #[.pointer (some p)] (.panicking [{ v:=.iface 137 (.int .i64 E),recovered:=false }]) w fun e u' w'=>
   e=.returned (.tuple #[])/\u'=.panicking [{ v:=.iface 137 (.int .i64 E),recovered:=true }]/\w'=w.setCell p (.int .i64 E):=by
 have hta:=run_wrong
 refine callsD_of_wpS Tryz.func101 rfl fun c₀ cs hu=>?_
 simp only [Tryz.ntmps101,List.size_toArray,List.length_cons,List.length_nil,Nat.reduceAdd,Nat.reduceSub,Array.replicate_succ,Array.replicate_zero,List.push_toArray,List.append_toArray,List.nil_append,List.cons_append]
 apply wpS_seq
 apply wpS_region
 simp [wpOpsS,go_sem,recoverD,hu,Exit.thenS]
 refine wpS_of_wp ?_
 go_wp2
 simp [bodyPostS,results,Tryz.results101]
theorem caught_any (f:FuncId) (caps:Array Value) (w:World) (R:Int->World->Prop)
  (hin:∀ args w',(callFunc f args).run Tryz.prog w'=.ok (.enter f args) w')
  (h:Calls Tryz.prog f caps (w.alloc (.cells #[.int .i64 0] 36)) (fun e w'=>∃ E:Int,e=endN E/\R E w'/\Blk w' w.heap.size 36 #[.int .i64 0])) :
  Calls Tryz.prog 38 #[.func (.func f) #[] caps] w (fun e w'=>∃ (E:Int) (w1:World),e=.returned (.int .i64 E)/\R E w1/\Blk w1 w.heap.size 36 #[.int .i64 0]/\w'=w1.setCell ⟨w.heap.size,0,none⟩ (.int .i64 E)):=by
 have hmf:∀ (fn:Fn) (first cap:Array Value) (w:World),(Instr.makeFunc fn first cap).run Tryz.prog w=.ok (.func fn first cap) w:=fun _ _ _ _=>rfl
 have H:=Lib.hid h
 clear h
 go_enter_defers Tryz.func38,Tryz.ntmps38
 go_wp2_with fail
 with_reducible refine H.out.mono ?_
 rintro e w1 ⟨E,rfl,hR,hB⟩
 have HB:=Lib.hid hB
 have HR:=Lib.hid hR
 have c0:=hB.cell 0
 have f0:=hB.frozen 0
 clear hR hB
 by_cases hE:E=0
 ·subst hE
  rw [endN_zero]
  go_wp2
  refine leaves_cons (f:=101) (args:=#[.pointer (some ⟨w.heap.size,0,none⟩)]) (by simp) (by simp [go_sem]) ?_
  refine (recov_idle ⟨w.heap.size,0,none⟩ _).mono ?_
  rintro e u' w'' ⟨rfl,rfl,rfl⟩
  have hs:=(HB.out.set_ 0 (.int .i64 0)).cell 0
  simp only [List.setIfInBounds_toArray,List.set_cons_zero] at hs
  simp [Leaves,settle,results,Tryz.results38,go_sem,hs]
  exact ⟨w1,HR.out,HB.out,rfl⟩
 rw [endN_not hE]
 clear hE
 go_wp2
 refine leaves_cons (f:=101) (args:=#[.pointer (some ⟨w.heap.size,0,none⟩)]) (by simp) (by simp [go_sem]) ?_
 refine (recov_wrong ⟨w.heap.size,0,none⟩ 0 E _ c0 f0).mono ?_
 rintro e u' w'' ⟨rfl,rfl,rfl⟩
 have hs:=(HB.out.set_ 0 (.int .i64 E)).cell 0
 simp only [List.setIfInBounds_toArray,List.set_cons_zero] at hs
 simp [Leaves,settle,results,Tryz.results38,go_sem,hs]
 exact ⟨w1,HR.out,HB.out,rfl⟩
end Go.Proofs.YtjpjalmilfgckaaGreatDoor
namespace Go.Proofs.YtjpjalmilfgckaaGreatDoor
open Go.RowKit
theorem beq_any (A B:Option Addr) (n c m d:Nat) (l1 l2:List UInt8) (w:World) (h1:Reads w w.heap.size 1 A n (u8s l1)) (h2:Reads w w.heap.size 1 B m (u8s l2)) :
  Calls Tryz.prog 69 #[.slice A n c,.slice B m d] w fun e w'=>e=.returned (.bool (l1==l2))/\w=w':=by
 have e1:=run_bytes_string (P:=Tryz.prog) w 35 9 5 Tryz.underlying35 Tryz.underlying5 Tryz.underlying9 _ A n c l1 h1
 have e2:=run_bytes_string (P:=Tryz.prog) w 35 9 5 Tryz.underlying35 Tryz.underlying5 Tryz.underlying9 _ B m d l2 h2
 go_enter Tryz.func69,Tryz.ntmps69
 go_wp2
 go_ret
 exact ⟨rfl,rfl⟩
theorem bhas_any (A B:Option Addr) (n c m d:Nat) (l1 l2:List UInt8) (w:World) (h1:Reads w w.heap.size 1 A n (u8s l1)) (h2:Reads w w.heap.size 1 B m (u8s l2)) (hn:n<=c) (hc:c<=maxLen) :
  Calls Tryz.prog 140 #[.slice A n c,.slice B m d] w fun e w'=>e=.returned (.bool (l1.take m==l2))/\w=w':=by
 have hl1:=reads_len h1
 have hl2:=reads_len h2
 have hc63:c<=9223372036854775807:=by simp only [maxLen] at hc;omega
 by_cases hmn:m<=n
 ·have d1:decide ((m:Int)<=(n:Int))=true:=by simp;omega
  have hmi:(m:Int)<=(n:Int):=by omega
  have hr:=h1.head hmn
  rw [Nat.mul_one,u8s_take] at hr
  have HK:=Lib.hid (beq_any A B m c m d (l1.take m) l2 w hr h2)
  clear h1 h2 hr hl1 hl2
  go_enter Tryz.func140,Tryz.ntmps140
  go_wp2_with fail
  with_reducible refine HK.out.mono ?_
  rintro e w1 ⟨rfl,rfl⟩
  go_wp2
  go_ret
  exact ⟨rfl,rfl⟩
 have d1:decide ((m:Int)<=(n:Int))=false:=by simp;omega
 have hE:(l1.take m==l2)=false:=by
  rw [beq_eq_false_iff_ne]
  intro h
  have:=congrArg List.length h
  rw [List.length_take] at this
  omega
 rw [hE]
 clear h1 h2 hl1 hl2 hE
 go_enter Tryz.func140,Tryz.ntmps140
 go_wp2
 go_ret
 exact ⟨rfl,rfl⟩
def CutP (l1 l2:List UInt8) (A:Option Addr) (n c m b:Nat) (w:World) (e:Ending) (w':World):Prop:=
 w=w'/\if (l1.take m==l2)=true then ∃ A' k c',e=.returned (.tuple #[.slice A' k c',.bool true])/\Reads w b 1 A' k (u8s (l1.drop m))/\k<=c'/\c'<=maxLen
 else e=.returned (.tuple #[.slice A n c,.bool false])
theorem bcut_any (b:Nat) (A B:Option Addr) (n c m d:Nat) (l1 l2:List UInt8) (w:World) (h1:Reads w b 1 A n (u8s l1)) (hb:b<=w.heap.size) (h2:Reads w w.heap.size 1 B m (u8s l2)) (hn:n<=c) (hc:c<=maxLen) :
  Calls Tryz.prog 80 #[.slice A n c,.slice B m d] w (CutP l1 l2 A n c m b w):=by
 have hl1:=reads_len h1
 have hl2:=reads_len h2
 have hc63:c<=9223372036854775807:=by simp only [maxLen] at hc;omega
 have HK:=Lib.hid (bhas_any A B n c m d l1 l2 w (h1.more hb) h2 hn hc)
 by_cases he:(l1.take m==l2)=true
 ·have hmn:m<=n:=by
   have:=congrArg List.length (eq_of_beq he)
   rw [List.length_take] at this
   omega
  have hcut:=h1.cut hmn hn
  rw [Nat.mul_one,u8s_drop] at hcut
  obtain ⟨A2,hA2⟩:∃ A2,(if c=m then A else Option.map (fun x=>x.add m) A)=A2:=⟨_,rfl⟩
  rw [hA2] at hcut
  have Hcut:=Lib.hid hcut
  have hmi:(m:Int)<=(n:Int):=by omega
  have hmi2:(m:Int)<=(c:Int):=by omega
  have hmc:m<=c:=by omega
  have HE:=Lib.hid he
  clear h1 h2 hl1 hl2 hcut
  go_enter Tryz.func80,Tryz.ntmps80
  go_wp2_with fail
  with_reducible refine HK.out.mono ?_
  rintro e w1 ⟨rfl,rfl⟩
  rw [he]
  clear he
  go_wp2
  go_ret2
  refine ⟨rfl,?_⟩
  rw [if_pos HE.out]
  exact ⟨A2,n-m,c-m,rfl,Hcut.out,by omega,by simp only [maxLen] at hc ⊢;omega⟩
 have HE:=Lib.hid he
 have he2:(l1.take m==l2)=false:=by simpa using he
 clear h1 h2 hl1 hl2 he
 go_enter Tryz.func80,Tryz.ntmps80
 go_wp2_with fail
 with_reducible refine HK.out.mono ?_
 rintro e w1 ⟨rfl,rfl⟩
 rw [he2]
 clear he2
 go_wp2
 go_ret2
 refine ⟨rfl,?_⟩
 rw [if_neg HE.out]
 rfl
def NumR (r:Got (Nat×List UInt8)) (base g:Nat) (w:World) (e:Ending) (w':World):Prop:=
 match r with
 | .ok p=>e=.returned (.int .u64 (p.1:Int))/\∃ B m c,w'=w.setCell ⟨g,0,none⟩ (.slice B m c)/\Reads w base 1 B m (u8s p.2)/\m<=c/\c<=maxLen
 | .error er=>e=thr (er:Int)/\er≠0/\w'=w
set_option maxHeartbeats 1000000 in
theorem number_any (base g:Nat) (B:Option Addr) (m c:Nat) (xs:List UInt8) (most beyond:Nat) (w:World) (hG:Blk w g 129 #[.slice B m c]) (hr:Reads w base 1 B m (u8s xs)) (hb:base<=w.heap.size) (hm:m<=c) (hc:c<=maxLen) (hbe:beyond≠0) :
  Calls Tryz.prog 154 #[.pointer (some ⟨g,0,none⟩),.int .u64 (most:Int),.int .i64 (beyond:Int)] w (NumR (numD most beyond xs) base g w):=by
 have hxl:=reads_len hr
 have HK:=Lib.hid (get_any B m c xs w (hr.more hb) hm hc)
 have hc0:=hG.cell 0
 have hf0:=hG.frozen 0
 have hc63:c<=9223372036854775807:=by simp only [maxLen] at hc;omega
 rcases get_only xs with ⟨N,hg,hN,hl,-⟩ | ⟨er,hg,he,hel⟩
 ·have hE:numD most beyond xs=if N<=most then .ok (N,xs.drop (leb N).length) else .error beyond:=by
   unfold numD
   rw [hg]
   simp
  rw [hg] at HK
  unfold gotten at HK
  generalize (leb N).length=sz at *
  rw [hxl] at hl
  have hcut:=hr.cut hl hm
  rw [Nat.mul_one,u8s_drop] at hcut
  obtain ⟨A2,hA2⟩:∃ A2,(if c=sz then B else Option.map (fun x=>x.add sz) B)=A2:=⟨_,rfl⟩
  rw [hA2] at hcut
  have Hcut:=Lib.hid hcut
  have HE:=Lib.hid hE
  have hmi:(sz:Int)<=(m:Int):=by omega
  have hmi2:(sz:Int)<=(c:Int):=by omega
  have hmc:sz<=c:=by omega
  simp only at HK
  clear hr hxl hcut hE hg hG
  go_enter Tryz.func154,Tryz.ntmps154
  go_wp2_with fail
  with_reducible refine HK.out.mono ?_
  rintro e w1 ⟨rfl,rfl⟩
  go_wp2_with fail
  with_reducible refine (must_yes _).mono ?_
  rintro e w2 ⟨rfl,rfl⟩
  by_cases hle:N<=most
  ·have HE:=Lib.hid (show numD most beyond xs=.ok (N,xs.drop sz) by rw [HE.out,if_pos hle])
   have d1:decide (N<=most)=true:=by simpa using hle
   clear hle
   go_wp2_with fail
   with_reducible refine (need_yes _ _).mono ?_
   rintro e w2 ⟨rfl,rfl⟩
   go_wp2
   go_ret
   rw [HE.out]
   exact ⟨rfl,A2,m-sz,c-sz,rfl,Hcut.out,by omega,by simp only [maxLen] at hc ⊢;omega⟩
  have HE:=Lib.hid (show numD most beyond xs=.error beyond by rw [HE.out,if_neg hle])
  have d1:decide (N<=most)=false:=by simpa using hle
  clear hle
  go_wp2_with fail
  with_reducible refine (need_no _ _).mono ?_
  rintro e w2 ⟨rfl,rfl⟩
  go_wp2
  refine ⟨rfl,?_⟩
  rw [HE.out]
  exact ⟨rfl,hbe,rfl⟩
 have HE:=Lib.hid (show numD most beyond xs=.error er by unfold numD;rw [hg];simp [he])
 rw [hg] at HK
 unfold gotten at HK
 simp only at HK
 have hei:(er:Int)≠0:=by omega
 clear hr hxl hg hG
 go_enter Tryz.func154,Tryz.ntmps154
 go_wp2_with fail
 with_reducible refine HK.out.mono ?_
 rintro e w1 ⟨rfl,rfl⟩
 go_wp2_with fail
 with_reducible refine (must_no _ hei _).mono ?_
 rintro e w2 ⟨rfl,rfl⟩
 go_wp2
 refine ⟨rfl,?_⟩
 rw [HE.out]
 exact ⟨rfl,he,rfl⟩
end Go.Proofs.YtjpjalmilfgckaaGreatDoor
namespace Go.Proofs.YtjpjalmilfgckaaGreatDoor
open Go.RowKit
set_option maxHeartbeats 1000000 in
theorem rowc1_any (g:Nat) (A:Option Addr) (n c:Nat) (cs:List Co) (k:Nat) (u:Bool) (x:Int) (s:ByteArray) (co:Co) (w:World) (hg:w.cell? ⟨g,0,none⟩=some (.slice A n c)) (hgl:g<w.heap.size) (hr:Reads w w.heap.size 7 A n (cos cs)) (hk:k<n) (hco:cs[k]? = some co) (hT:Tabs w) :
  Calls Tryz.prog 160 #[.int .i64 (k:Int),.agg #[.bool u,.int .i64 x,.string s],.pointer (some ⟨g,0,none⟩)] w fun e w'=>e=.returned (.int .i64 (checkE co.2.2.1 co.2.2.2.1 (u,x,s)))/\Below w.heap.size w w':=by
 obtain ⟨ad,c',rfl,hb,hc',hat⟩:=cos_at hr hk
 rw [hco] at hc'
 cases hc'
 have HT:=Lib.hid hT
 have hk2:(k:Int)<(n:Int):=by omega
 have hbl:(ad.add (k*7)).block<w.heap.size:=by rw [block_of_add];exact hb
 obtain ⟨W,hW⟩:∃ W,W=w.alloc (.cells #[.bool u,.int .i64 x,.string s] 23):=⟨_,rfl⟩
 have hb1:Below w.heap.size w W:=by rw [hW];exact (Below.refl w.heap.size w).alloc (Nat.le_refl _) _
 have HX:=Lib.hid (show Blk W w.heap.size 23 #[.bool u,.int .i64 x,.string s] by rw [hW];exact Blk.new w _ _)
 have hat:=hat.on hb1 hbl
 have hbl:=Nat.lt_of_lt_of_le hbl hb1.size
 have hg:=(hb1.cell (p:=⟨g,0,none⟩) hgl).trans hg
 have hgl:=Nat.lt_of_lt_of_le hgl hb1.size
 have HG:=Lib.hid (show ∀ w',Below W.heap.size W w'->w'.cell? ⟨g,0,none⟩=some (.slice (some ad) n c) from fun w' h=>(h.cell (p:=⟨g,0,none⟩) hgl).trans hg)
 have H2:=Lib.hid (show ∀ w',Below W.heap.size W w'->w'.cell? ⟨(ad.add (k*7)).block,(ad.add (k*7)).off+2,none⟩=some (.int .i64 co.2.2.1) from fun w' h=>(hat.on h hbl).c2)
 have H3:=Lib.hid (show ∀ w',Below W.heap.size W w'->w'.cell? ⟨(ad.add (k*7)).block,(ad.add (k*7)).off+2+1,none⟩=some (.bool co.2.2.2.1) from fun w' h=>(hat.on h hbl).c3)
 have X0:=Lib.hid (show ∀ w',Below W.heap.size W w'->w'.cell? ⟨w.heap.size,0,none⟩=some (.bool u) from fun w' h=>(HX.out.on h).cell 0)
 have X1:=Lib.hid (show ∀ w',Below W.heap.size W w'->w'.cell? ⟨w.heap.size,1,none⟩=some (.int .i64 x) from fun w' h=>(HX.out.on h).cell 1)
 have X2:=Lib.hid (show ∀ w',Below W.heap.size W w'->w'.cell? ⟨w.heap.size,2,none⟩=some (.string s) from fun w' h=>(HX.out.on h).cell 2)
 have Hb1:=Lib.hid hb1
 have HTW:=Lib.hid (HT.out.on hb1)
 have HW:=Lib.hid hW
 clear hr hco hb hat hT hg hgl hbl hb1 hW HX
 generalize hk7:ad.add (k*7)=ak at *
 go_enter Tryz.func160,Tryz.ntmps160
 go_wp2
 rw [<-HW.out]
 have hS:Below W.heap.size W W.drew:=(Below.refl _ _).drew
 refine hR (fun w'=>Below W.heap.size W w') [ff 0,ff 1,ff 2,ff 3,ff 4,ff 5,tt 6,ff 7] ?_
 refine hP1 hS HG.out ?_
 iterate 3
  refine hP hS ?_
 refine hP2 hS H2.out H3.out ?_
 refine hP3 hS X0.out X1.out X2.out ?_
 refine hE fun K hK=>?_
 go_simp
 with_reducible refine (check_any3 co.2.2.1 co.2.2.2.1 u x s _ (HTW.out.on hS)).mono ?_
 rintro e w5 ⟨rfl,hb5⟩
 refine held_go hK (by exact bon hS hb5) fun hS=>?_
 clear hK K
 try simp only [zp]
 clear hb5
 refine hP hS ?_
 refine held_end ?_
 have HB:=Lib.hid (bon Hb1.out hS)
 clear hS
 go_wp2
 go_ret
 exact ⟨rfl,HB.out⟩
theorem cellsE_drop (cs:List Co) (r:List Cl) (k:Nat) (co:Co) (x:Cl) (h1:cs[k]? = some co) (h2:r[k]? = some x) :
  cellsE (cs.drop k) (r.drop k)=if checkE co.2.2.1 co.2.2.2.1 x=0 then cellsE (cs.drop (k+1)) (r.drop (k+1)) else checkE co.2.2.1 co.2.2.2.1 x:=by
 obtain ⟨g1,rfl⟩:=List.getElem?_eq_some_iff.1 h1
 obtain ⟨g2,rfl⟩:=List.getElem?_eq_some_iff.1 h2
 rw [List.drop_eq_getElem_cons g1,List.drop_eq_getElem_cons g2,cellsE]
theorem cellsE_end (cs:List Co) (r:List Cl):cellsE (cs.drop r.length) (r.drop r.length)=0:=by
 rw [List.drop_length]
 cases cs.drop r.length<;>rfl
set_option maxHeartbeats 1000000 in
theorem rowfirst_any (g:Nat) (A:Option Addr) (n c:Nat) (cs:List Co) (B:Option Addr) (d:Nat) (r:List Cl) (w:World) (hg:w.cell? ⟨g,0,none⟩=some (.slice A n c)) (hgl:g<w.heap.size) (hr:Reads w w.heap.size 7 A n (cos cs)) (hr2:Reads w w.heap.size 3 B n (cls r)) (hm:n<=maxLen) (hT:Tabs w) :
  Calls Tryz.prog 159 #[.slice B n d,.func (.func 160) #[] #[.pointer (some ⟨g,0,none⟩)]] w fun e w'=>e=.returned (.int .i64 (cellsE cs r))/\Below w.heap.size w w':=by
 have HT:=Lib.hid hT
 have Hr:=Lib.hid hr
 have Hr2:=Lib.hid hr2
 have HG:=Lib.hid hg
 have Hlc:=Lib.hid (cos_len hr)
 have Hlr:=Lib.hid (cls_len hr2)
 have hm63:n<=9223372036854775807:=by simp only [maxLen] at hm;omega
 clear hT hr hr2 hg hm
 go_enter Tryz.func159,Tryz.ntmps159
 go_wp2
 go_loopw [10] (fun i wr=>∃ k:Nat,k<=n/\i=.int .i64 (k:Int)/\Hid (cellsE cs r=cellsE (cs.drop k) (r.drop k))/\Hid (Below w.heap.size w wr)) (fun i _=>n-(intOf i).toNat)
 case atStart=>exact ⟨0,Nat.zero_le _,rfl,Lib.hid rfl,Lib.hid (Below.refl _ _)⟩
 case round=>
  obtain ⟨k,hk,rfl,HE,HB⟩:=hrel
  by_cases hlt:k<n
  ·obtain ⟨ad,u,x,s,rfl,hbk,hx,h0,h1,h2⟩:=cls_at (Hr2.out.below HB.out) hlt
   have hkc:k<cs.length:=by rw [Hlc.out];omega
   have hco:=List.getElem?_eq_getElem hkc
   have HD:=Lib.hid (cellsE_drop cs r k cs[k] (u,x,s) hco hx)
   have Hco:=Lib.hid hco
   have hb1:=bal HB.out (.cells #[.bool u,.int .i64 x,.string s] 23)
   have HB1:=Lib.hid hb1
   generalize cs[k]=co at HD Hco
   clear hx hbk hco hb1
   go_wp2_with fail
   with_reducible refine (rowc1_any g A n c cs k u x s co _ ((HB1.out.cell (p:=⟨g,0,none⟩) hgl).trans HG.out) (Nat.lt_of_lt_of_le hgl HB1.out.size) (Hr.out.on HB1.out) hlt Hco.out (HT.out.on HB1.out)).mono ?_
   rintro e w1 ⟨rfl,hb1⟩
   have HB2:=Lib.hid (bon HB1.out hb1)
   clear hb1
   by_cases hz:checkE co.2.2.1 co.2.2.2.1 (u,x,s)=0
   ·have HE2:=Lib.hid (show cellsE cs r=cellsE (cs.drop (k+1)) (r.drop (k+1)) by rw [HE.out,HD.out,if_pos hz])
    generalize checkE co.2.2.1 co.2.2.2.1 (u,x,s)=E0 at hz ⊢
    subst hz
    go_wp2
    go_roundw
    case rel=>exact ⟨k+1,by omega,by go_num,HE2,HB2⟩
    case measure=>simp [intOf];omega
   have HE2:=Lib.hid (show checkE co.2.2.1 co.2.2.2.1 (u,x,s)=cellsE cs r by rw [HE.out,HD.out,if_neg hz])
   rw [HE2.out] at hz ⊢
   have hzb:(cellsE cs r != 0)=true:=by simpa using hz
   clear hz
   go_wp2
   go_ret
   exact ⟨rfl,HB2.out⟩
  obtain rfl:k=n:=by omega
  have HE2:=Lib.hid (show cellsE cs r=0 by rw [HE.out];have:=cellsE_end cs r;rw [Hlr.out] at this;exact this)
  go_wp2
  go_ret
  rw [HE2.out]
  exact ⟨rfl,HB.out⟩
theorem prow_any (A:Option Addr) (n c:Nat) (cs:List Co) (B:Option Addr) (m d:Nat) (r:List Cl) (w:World) (hr:Reads w w.heap.size 7 A n (cos cs)) (hr2:Reads w w.heap.size 3 B m (cls r)) (hm:m<=maxLen) (hT:Tabs w) :
  Calls Tryz.prog 102 #[.slice A n c,.slice B m d] w fun e w'=>e=.returned (.int .i64 (rowE cs r))/\Below w.heap.size w w':=by
 have hlc:=cos_len hr
 have hlr:=cls_len hr2
 have HT:=Lib.hid hT
 have Hr:=Lib.hid hr
 have Hr2:=Lib.hid hr2
 have Hb:=Lib.hid (bal (Below.refl w.heap.size w) (.cells #[.slice A n c] 32))
 have HK:=Lib.hid ((Blk.new w 32 #[.slice A n c]).cell 0)
 clear hr hr2 hT
 by_cases hmn:m=n
 ·have HE:=Lib.hid (show rowE cs r=cellsE cs r by unfold rowE;rw [if_pos (by omega)])
  subst hmn
  have db:((m:Int) != (m:Int))=false:=by simp
  clear hlc hlr
  go_enter Tryz.func102,Tryz.ntmps102
  go_wp2_with fail
  with_reducible refine (rowfirst_any w.heap.size A m c cs B d r _ HK.out (by simp) (Hr.out.on Hb.out) (Hr2.out.on Hb.out) hm (HT.out.on Hb.out)).mono ?_
  rintro e w1 ⟨rfl,hb1⟩
  have HB:=Lib.hid (bon Hb.out hb1)
  clear hb1
  go_wp2
  go_ret
  rw [HE.out]
  exact ⟨rfl,HB.out⟩
 have HE:=Lib.hid (show rowE cs r=100 by unfold rowE;rw [if_neg (by omega)])
 have db:((n:Int) != (m:Int))=true:=by simp;omega
 clear hlc hlr
 go_enter Tryz.func102,Tryz.ntmps102
 go_wp2
 go_ret
 rw [HE.out]
 exact ⟨rfl,Hb.out⟩
end Go.Proofs.YtjpjalmilfgckaaGreatDoor
