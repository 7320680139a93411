/- Part 24 of the walks. Conditions: each lemma states its own. -/
import Derived.Test.YtjpjalmilfgckaaGreatDoorZz23
set_option maxRecDepth 100000
set_option maxHeartbeats 8000000
set_option linter.unusedVariables false
set_option linter.unusedSimpArgs false
namespace Go.Proofs.YtjpjalmilfgckaaGreatDoor
section
open Go.RowKit
theorem Zc (A:Option Addr) (n c:Nat) (l:List UInt8) (w:World) (hr:Reads w w.heap.size 1 A n (u8s l)) (hn:n<=35184372088) (hT:CTab w) :
  Calls Tryz.prog 71 #[.slice A n c] w fun e w'=>∃ A' c',e=.returned (.slice A' (n+4) c')/\n+4<=c'/\c'<=maxLen/\w'.ownsRow w.heap.size 5 1 (.slice A' (n+4) c') (n+4) (u8s (l++yj (zZ l)))/\Below w.heap.size w w':=by
 obtain ⟨i0,hi0,hz0,hz1,hz2⟩:=info_parts z7;have HS:=za (aat A n c l w hr (by simp only [maxLen];omega) hT);have HK:=za (qf A n c l w hr (by omega));have hs:zZ l<4294967296:=Uu 0 l;have Hcells:=za (JD (zZ l));have Hfour:=za (fun w a b c d ha hb hc hd=>Ur (zZ l) w a b c d ha hb hc hd);clear hr hT;generalize hX:zZ l=X at *;clear hX;go_enter Tryz.func71,Tryz.ntmps71;go_wp2_with fail
 with_reducible refine HS.out.mono ?_
 rintro e w1 ⟨rfl,rfl⟩;go_wp2_with fail
 with_reducible refine HK.out.mono ?_
 rintro e w2 ⟨A2,c2,rfl,q1,q2,q3,q4⟩;have HO:=za q3;have HB:=za q4;clear q1 q2 q3 q4 HS HK;have hs1:n+4<=maxLen:=by simp only [maxLen];omega
 have hs2:(n+4)*1<=70368744177664:=by omega
 clear Hcells Hfour
 go_wp2_with (at_builtin
              refine zb _ rfl (.tmp 7) (.tmp 19) 35 rfl w.heap.size 5 i0 (.int .u8 0) 1 1 Tryz.underlying35 hi0 hz0 hz1 hz2 rfl (by decide) A2 n c2 _ rfl (HO.out.alloc _) (some ⟨_,0,none⟩) 4 4 (u8s (yj X)) rfl (by exact aaq _ _ _ rfl _ _ _ _ (by omega) (by omega) (by omega) (by omega)) (z6 _) hs1 hs2 (bal HB.out _).size ?_;intro A8 c8 w8 r1 r2 r3 r4 r5;rw [<-zt] at r1;have R1:=za r1;have R2:=za ((bal HB.out _).trans r2);have R4:=za (And.intro r4 r5);clear r1 r2 r3 r4 r5)
 go_ret;exact ⟨A8,c8,rfl,R4.out.1,R4.out.2,R1.out,R2.out⟩
theorem Uh (w:World):Calls Tryz.prog 72 #[] w fun e w'=>∃ g1 g2,e=.returned (.agg #[.slice (some ⟨g1,0,none⟩) 1 1,.slice (some ⟨g2,0,none⟩) 1 1])/\ScAt w' (some ⟨g1,0,none⟩) 1 (some ⟨g2,0,none⟩) 1 qM/\Below w.heap.size w w':=by
 go_enter Tryz.func72,Tryz.ntmps72;go_wp2;obtain ⟨W1,hW1⟩:∃ W1,w.alloc (.cells #[.slice (some ⟨w.heap.size+1,0,none⟩) 1 1,.slice (some ⟨w.heap.size+1+1,0,none⟩) 1 1] 48)=W1:=⟨_,rfl⟩;have hz1:W1.heap.size=w.heap.size+1:=by rw [<-hW1];simp
 have hB1:Below w.heap.size w W1:=by rw [<-hW1];exact bal (Below.refl _ _) _
 have hT1:Blk W1 w.heap.size 48 #[.slice (some ⟨w.heap.size+1,0,none⟩) 1 1,.slice (some ⟨w.heap.size+1+1,0,none⟩) 1 1]:=by rw [<-hW1];exact Blk.new _ _ _
 rw [hW1];clear hW1;have c1:Blk ((W1.alloc (.cells #[.int .i64 1,.string ⟨#[105,100]⟩,.int .i64 2,.bool false,.bool false,.int .i64 0,.string ⟨#[]⟩] 45)).alloc (.cells #[.int .i64 0] 3)) (w.heap.size+1) 45 #[.int .i64 1,.string ⟨#[105,100]⟩,.int .i64 2,.bool false,.bool false,.int .i64 0,.string ⟨#[]⟩]:=by
  rw [<-hz1];exact (Blk.new _ _ _).alloc _
 have c2:Blk ((W1.alloc (.cells #[.int .i64 1,.string ⟨#[105,100]⟩,.int .i64 2,.bool false,.bool false,.int .i64 0,.string ⟨#[]⟩] 45)).alloc (.cells #[.int .i64 0] 3)) (w.heap.size+1+1) 3 #[.int .i64 0]:=by
  rw [<-hz1];exact Blk.new' _ _ _ _ (by simp)
 have c0:=(hT1.alloc (.cells #[.int .i64 1,.string ⟨#[105,100]⟩,.int .i64 2,.bool false,.bool false,.int .i64 0,.string ⟨#[]⟩] 45)).alloc (.cells #[.int .i64 0] 3);have r0:=c0.cell 0;have r1:=c0.cell 1;have hB:=bal (bal hB1 (.cells #[.int .i64 1,.string ⟨#[105,100]⟩,.int .i64 2,.bool false,.bool false,.int .i64 0,.string ⟨#[]⟩] 45)) (.cells #[.int .i64 0] 3);generalize (W1.alloc (.cells #[.int .i64 1,.string ⟨#[105,100]⟩,.int .i64 2,.bool false,.bool false,.int .i64 0,.string ⟨#[]⟩] 45)).alloc (.cells #[.int .i64 0] 3)=W2 at *;refine bodyPost_ret (v:=.agg #[.slice (some ⟨w.heap.size+1,0,none⟩) 1 1,.slice (some ⟨w.heap.size+1+1,0,none⟩) 1 1]) (by simp [results,Tryz.results72,go_sem,r0,r1]) rfl ?_;exact ⟨_,_,rfl,⟨c1.readsN 7 1 _ rfl rfl,c2.readsN 1 1 _ rfl rfl⟩,hB⟩
theorem ab9 {w:World} {CA KA:Option Addr} {cn kn:Nat} {s:Sc} (cc kc b:Nat) (hb:b=w.heap.size) (h:ScAt w CA cn KA kn s) (h1:cn<=1000000) (h2:kn<=1000000) :
  SchsAt (w.alloc (.cells #[.slice CA cn cc,.slice KA kn kc] 48)) (w.alloc (.cells #[.slice CA cn cc,.slice KA kn kc] 48)).heap.size (some ⟨b,0,none⟩) 1 [s]:=by
 subst hb;have h3:=h.al (.cells #[.slice CA cn cc,.slice KA kn kc] 48);refine ⟨[((CA,cn,cc),(KA,kn,kc))],(Blk.new w 48 #[.slice CA cn cc,.slice KA kn kc]).readsN 2 1 _ rfl rfl,rfl,fun j g s2 hj hs=>?_⟩;have h0:j=0:=by have:=(List.getElem?_eq_some_iff.1 hj).1;simp at this;omega
 subst h0;cases hj;cases hs;exact ⟨h3.cols,h3.keys,h1,h2⟩
theorem Xo (er:Nat) (ei:Int) (hei:ei=(er:Int)) (B:Option Addr) (m cb:Nat) (xs:List UInt8) (w:World) (hx:Reads w w.heap.size 1 B m (u8s xs)) (hm:m<=cb) (hc:cb<=maxLen) (hm9:m<=1000000000) (hT:Tab2 w.heap.size w) (hE:ErrT w) (hd:qL [qM] xs=.error er) :
  Calls Tryz.prog 74 #[.slice B m cb,.int .i64 ei] w fun e w'=>e=.returned (.bool true)/\Below w.heap.size w w':=by
 have Hx:=za hx;have HT:=za hT;have HE:=za hE;have Hd:=za hd;subst hei;clear hx hT hd hE;go_enter Tryz.func74,Tryz.ntmps74;go_wp2_with fail
 with_reducible refine (Uh _).mono ?_
 rintro e w1 ⟨g1,g2,rfl,hr,hb1⟩;have HB:=za (bal hb1 (.cells #[.slice (some ⟨g1,0,none⟩) 1 1,.slice (some ⟨g2,0,none⟩) 1 1] 48));have HS:=za (ab9 1 1 w1.heap.size rfl hr (by decide) (by decide));obtain ⟨gb,hgb⟩:∃ gb,gb=w1.heap.size:=⟨_,rfl⟩;rw [<-hgb] at HS;clear hb1 hr;go_wp2_with fail
 rw [<-hgb];clear hgb;generalize w1.alloc (.cells #[.slice (some ⟨g1,0,none⟩) 1 1,.slice (some ⟨g2,0,none⟩) 1 1] 48)=w2 at *;with_reducible refine (aak (some ⟨gb,0,none⟩) 1 1 [qM] B m cb xs w2 HS.out (by decide) (by decide) (fun s hs=>by obtain rfl:=List.mem_singleton.1 hs;exact Ui) (Hx.out.on HB.out) hm hc hm9 (HT.out.on HB.out) (HE.out.on HB.out)).mono ?_
 rintro e w3 ⟨hb3,hp⟩;rw [Hd.out] at hp;obtain ⟨rfl,-⟩:=hp;have HB:=za (bal (bon HB.out hb3) (.cells #[.int .i64 0,.int .i64 0,.slice none 0 0,.slice none 0 0,.slice none 0 0] 51));clear hb3 HS;go_wp2_with fail
 with_reducible refine (UT 0 0 none 0 0 none 0 0 none 0 0 [] [] [] 0 0 none 0 0 none 0 0 none 0 0 [] [] [] _ (StAt.nil _) (StAt.nil _) (by decide) (by decide)).mono ?_
 rintro e w4 ⟨rfl,hb4⟩;have HB:=za (bon HB.out hb4);clear hb4;rw [YA];go_wp2;go_ret;exact ⟨rfl,HB.out⟩
theorem ZT (v q:Int) (MA:Option Addr) (mn mc:Nat) (RA:Option Addr) (rn rc:Nat) (LA:Option Addr) (ln lc:Nat) (ms:List Mk) (l:List It) (la:List UInt8) (w:World) (h:StAt w MA mn RA rn LA ln ms l la) (h1:mn<=maxLen) (h2:rn<=maxLen) (h3:ln<=maxLen) (hmk:UB ms) (hit:ItOk l) (hq:q<=9223372036854775807) (hT:Tab2 w.heap.size w) (hE:ErrT w) (hd:Zi qM (v,q,ms,l,la)=2) :
  Calls Tryz.prog 73 #[.agg #[.int .i64 v,.int .i64 q,.slice MA mn mc,.slice RA rn rc,.slice LA ln lc]] w fun e w'=>e=.returned (.bool true)/\Below w.heap.size w w':=by
 have HSt:=za h;have HT:=za hT;have HE:=za hE;have Hd:=za hd;have Hmk:=za hmk;have Hit:=za hit;obtain ⟨W,hW⟩:∃ W,w.alloc (.cells #[.int .i64 v,.int .i64 q,.slice MA mn mc,.slice RA rn rc,.slice LA ln lc] 51)=W:=⟨_,rfl⟩;have HB:=za (show Below w.heap.size w W by rw [<-hW];exact bal (Below.refl _ _) _);have HP:=za (show Blk W w.heap.size 51 #[.int .i64 v,.int .i64 q,.slice MA mn mc,.slice RA rn rc,.slice LA ln lc] by rw [<-hW];exact Blk.new _ _ _);clear h hT hE hd hmk hit;go_enter Tryz.func73,Tryz.ntmps73;go_wp2;try rw [hW]
 clear hW;have L0:=za (show ak1 W ⟨w.heap.size,0,none⟩ (.int .i64 v) from fun w' h=>(HP.out.on h).cell 0);have L1:=za (show ak1 W ⟨w.heap.size,1,none⟩ (.int .i64 q) from fun w' h=>(HP.out.on h).cell 1);have L2:=za (show ak1 W ⟨w.heap.size,2,none⟩ (.slice MA mn mc) from fun w' h=>(HP.out.on h).cell 2);have L3:=za (show ak1 W ⟨w.heap.size,3,none⟩ (.slice RA rn rc) from fun w' h=>(HP.out.on h).cell 3);have L4:=za (show ak1 W ⟨w.heap.size,4,none⟩ (.slice LA ln lc) from fun w' h=>(HP.out.on h).cell 4);have hS:=ak2 W;refine hB W [1,tt 0,tt 2,3,4,5,6,7] ?_;refine hP5 hS L0.out L1.out L2.out L3.out L4.out ?_;refine hE fun K hK=>?_;go_simp;with_reducible refine (Uh _).mono ?_
 rintro e w2 ⟨g1,g2,rfl,hr,hb⟩;have HS:=za (bon hS hb);have HR:=za hr;clear hr hb;refine hG hK (by exact HS.out) fun hS=>?_;clear hK K;clear HS;refine hE fun K hK=>?_;go_simp;with_reducible refine (show Calls _ _ _ _ (aeP (Zi qM (v,q,ms,l,la)) (ZV qM (v,q,ms,l,la)) _) from VY (some ⟨g1,0,none⟩) 1 1 (some ⟨g2,0,none⟩) 1 1 qM MA mn mc RA rn rc LA ln lc (v,q,ms,l,la) _ ⟨HR.out,HSt.out.on (bon HB.out hS),(HT.out.on (bon HB.out hS)).tabs⟩ ⟨by decide,by decide,h1,h2,h3,Ui,Hmk.out,Hit.out⟩ hq (HT.out.on (bon HB.out hS)) (HE.out.on (bon HB.out hS))).mono ?_
 rintro e w3 ⟨hb3,hm3⟩;rw [Hd.out] at hm3;rcases hm3 with ⟨h0,-⟩ | ⟨-,rfl⟩
 ·exact absurd h0 (by decide)
 have HS:=za (bon hS hb3);clear hb3 HR;refine hG hK (by exact HS.out) fun hS=>?_;clear hK K;clear HS;iterate 5 refine hP hS ?_
 refine zc ?_;go_wp2;replace L0:=za (show ak1 w3 ⟨w.heap.size,0,none⟩ (.int .i64 v) from fun w' h=>L0.out w' (bon hS h));replace L1:=za (show ak1 w3 ⟨w.heap.size,1,none⟩ (.int .i64 q) from fun w' h=>L1.out w' (bon hS h));replace L2:=za (show ak1 w3 ⟨w.heap.size,2,none⟩ (.slice MA mn mc) from fun w' h=>L2.out w' (bon hS h));replace L3:=za (show ak1 w3 ⟨w.heap.size,3,none⟩ (.slice RA rn rc) from fun w' h=>L3.out w' (bon hS h));replace L4:=za (show ak1 w3 ⟨w.heap.size,4,none⟩ (.slice LA ln lc) from fun w' h=>L4.out w' (bon hS h));replace HB:=za (bon HB.out hS);clear hS;have hS:=ak2 w3;refine hB w3 [0,1,2,3,4,5,6,7,9,tt 8,tt 10,11,12,13] ?_;iterate 8 refine hP hS ?_
 refine hP5 hS L0.out L1.out L2.out L3.out L4.out ?_;refine hE fun K hK=>?_;go_simp;with_reducible refine (Uh _).mono ?_
 rintro e w2 ⟨g1,g2,rfl,hr,hb⟩;have HS:=za (bon hS hb);have HR:=za hr;clear hr hb;refine hG hK (by exact HS.out) fun hS=>?_;clear hK K;clear HS;refine hE fun K hK=>?_;go_simp;with_reducible refine (show Calls _ _ _ _ (fun e w'=>e=.returned (.int .i64 (Zi qM (v,q,ms,l,la)))/\Below _ _ w') from VZ (some ⟨g1,0,none⟩) 1 1 (some ⟨g2,0,none⟩) 1 1 qM MA mn mc RA rn rc LA ln lc (v,q,ms,l,la) _ ⟨HR.out,HSt.out.on (bon HB.out hS),(HT.out.on (bon HB.out hS)).tabs⟩ ⟨by decide,by decide,h1,h2,h3,Ui,Hmk.out,Hit.out⟩ (HE.out.on (bon HB.out hS))).mono ?_
 rintro e w5 ⟨rfl,hb5⟩;rw [Hd.out];have HS:=za (bon hS hb5);clear hb5 HR;refine hG hK (by exact HS.out) fun hS=>?_;clear hK K;clear HS;iterate 3 refine hP hS ?_
 refine zc ?_;go_wp2;go_ret;exact ⟨rfl,bon HB.out hS⟩
end
section
open Go.RowKit
def abY:List UInt8:=[77,73,1,1,0,0,10]++aal
theorem ajz:UB []:=fun m hm=>by cases hm
theorem ael:ItOk []:=fun m hm=>by cases hm
theorem akx:UB [(⟨#[112]⟩,-1)]:=fun m hm=>by obtain rfl:=List.mem_singleton.1 hm;decide
theorem akw:UB [(⟨#[112]⟩,1),(⟨#[112]⟩,2)]:=fun m hm=>by
 rcases List.mem_cons.1 hm with rfl | hm
 ·decide
 obtain rfl:=List.mem_singleton.1 hm
 decide
theorem ajX:ItOk [([(false,1,⟨#[]⟩)],2)]:=fun m hm=>by
 obtain rfl:=List.mem_singleton.1 hm;exact ⟨fun c hc=>by obtain rfl:=List.mem_singleton.1 hc;decide,by decide,by decide⟩
theorem ai8:∀ s∈[qM],ScOk s:=fun s hs=>by obtain rfl:=List.mem_singleton.1 hs;exact Ui
theorem ahp {w w':World} {B:Nat} {e:TypeId} {v v2:Value} {n size:Nat} {xs:List Value} (h:w.ownsRow B e size v n xs) (hB:∀ k,v2.ownBlock=some k->k<B) (hg:w.grownBy w' v2.ownBlock):w'.ownsRow B e size v n xs:=by
 refine h.kept hg ?_;rcases hv:v.ownBlock with _ | k
 ·exact .inl rfl
 right;have h1:=(h.lt k hv).1;rcases hv2:v2.ownBlock with _ | k2
 ·simp
 have:=hB k2 hv2;simp;omega
theorem ajW (w:World) (hT:Tab2 w.heap.size w) (hE:ErrT w):Calls Tryz.prog 26 #[] w fun e w'=>e=.returned (.bool true)/\Below w.heap.size w w':=by
 obtain ⟨i0,hi0,hz0,hz1,hz2⟩:=info_parts z7;have HT:=za hT;have HE:=za hE;have HB:=za (bal (Below.refl w.heap.size w) (.cells #[.int .u8 77,.int .u8 83,.int .u8 1,.int .u8 1,.int .u8 0,.int .u8 0] 5));have HR:=za (qB w #[.int .u8 77,.int .u8 83,.int .u8 1,.int .u8 1,.int .u8 0,.int .u8 0] 5 (u8s [77,83,1,1,0,0]) w.heap.size 6 rfl rfl rfl);clear hT hE;go_enter Tryz.func26,Tryz.ntmps26;go_wp2_with fail
 with_reducible refine (Zc (some ⟨w.heap.size,0,none⟩) 6 6 [77,83,1,1,0,0] _ HR.out (by decide) (HT.out.on HB.out).ctab).mono ?_
 rintro e w1 ⟨A1,c1,rfl,-,-,ho,hb⟩;have HI:=za (show Reads w1 w1.heap.size 1 A1 10 (u8s aal) from ze ho);have HB1:=za (bon HB.out hb);clear ho hb HB HR;have HL:=za (show Blk (w1.alloc (.cells #[.int .u8 77,.int .u8 73,.int .u8 1,.int .u8 1,.int .u8 0,.int .u8 0,.int .u8 10] 5)) w1.heap.size 5 #[.int .u8 77,.int .u8 73,.int .u8 1,.int .u8 1,.int .u8 0,.int .u8 0,.int .u8 10] from Blk.new _ _ _);have HB:=za (bal HB1.out (.cells #[.int .u8 77,.int .u8 73,.int .u8 1,.int .u8 1,.int .u8 0,.int .u8 0,.int .u8 10] 5));have HI:=za (HI.out.al (.cells #[.int .u8 77,.int .u8 73,.int .u8 1,.int .u8 1,.int .u8 0,.int .u8 0,.int .u8 10] 5));have HO:=za (HL.out.own (base:=w.heap.size) (n:=7) (xs:=u8s [77,73,1,1,0,0,10]) HB1.out.size rfl rfl (by decide))
 go_wp2_with (at_builtin
              refine zb _ rfl (.tmp 13) (.tmp 14) 35 rfl w.heap.size 5 i0 (.int .u8 0) 1 1 Tryz.underlying35 hi0 hz0 hz1 hz2 rfl (by decide) _ 7 7 _ rfl HO.out A1 10 c1 (u8s aal) rfl HI.out (z6 _) (by decide) (by decide) HB.out.size ?_;intro A2 c2 w2 r1 r2 r3 r4 r5;rw [<-zt] at r1;have R1:=za (show w2.ownsRow w.heap.size 5 1 (.slice A2 17 c2) 17 (u8s abY) from r1);have R2:=za (HB.out.trans r2);clear r1 r2 r3 r4 r5)
 have Hchk:=za (show ∀ w',Below w.heap.size w w'->Tab2 w'.heap.size w'/\ErrT w' from fun w' h=>⟨HT.out.on h,HE.out.on h⟩);clear HB HB1 HL HO HI;with_reducible refine (Uh _).mono ?_
 rintro e w3 ⟨g1,g2,rfl,hr,hb⟩;have HB:=za (bon R2.out hb);have HW:=za (zd R1.out hb);have Hlt:=za (show ∀ k,(Value.slice A2 17 c2).ownBlock=some k->k<w3.heap.size from fun k hk=>Nat.lt_of_lt_of_le (R1.out.lt k hk).2 hb.size);clear hb R1 R2;go_wp2_with fail
 refine (show Calls _ _ _ _ (aeP (Zi qM stO) (ZV qM stO) _) from VY (some ⟨g1,0,none⟩) 1 1 (some ⟨g2,0,none⟩) 1 1 qM none 0 0 none 0 0 none 0 0 stO w3 ⟨hr,StAt.nil _,(Hchk.out _ HB.out).1.tabs⟩ ⟨by decide,by decide,by decide,by decide,by decide,Ui,(fun m hm=>by cases hm),(fun m hm=>by cases hm)⟩ (by decide) (Hchk.out _ HB.out).1 (Hchk.out _ HB.out).2).mono ?_;rintro e w4 ⟨hb,⟨-,Ax,cx,rfl,ho⟩ | ⟨h0,-⟩⟩;case inr=>exact absurd aj0 h0
 have Hpo:=za aiZ;have Himg:=za (show ZV qM stO=(abY++[0])++yj (zZ (abY++[0])) from akS);have hxl:(ZV qM stO).length=22:=by kernel_rfl
 rw [hxl] at ho ⊢;clear hxl;generalize ZV qM stO=xs at *;have HX:=za ho;have HB:=za (bon HB.out hb);have HW:=za (zd HW.out hb);clear ho hb hr;have hal:=bal (Below.refl w4.heap.size w4) (.cells #[.int .u8 0] 5);have HZ:=za (qB w4 #[.int .u8 0] 5 (u8s [0]) w4.heap.size 1 rfl rfl rfl);have HXa:=za (zd HX.out hal);have HWa:=za (zd HW.out hal);have HBa:=za (bon HB.out hal);clear hal
 go_wp2_with (at_builtin
              refine zb _ rfl (.tmp 23) (.tmp 24) 35 rfl w.heap.size 5 i0 (.int .u8 0) 1 1 Tryz.underlying35 hi0 hz0 hz1 hz2 rfl (by decide) A2 17 c2 _ rfl HWa.out (some ⟨_,0,none⟩) 1 1 (u8s [0]) rfl HZ.out (z6 _) (by decide) (by decide) HBa.out.size ?_;intro A5 c5 w5 r1 r2 r3 r4 r5;rw [<-zt] at r1;have R1:=za (show Reads w5 w5.heap.size 1 A5 18 (u8s (abY++[0])) from ze r1);have R2:=za (HBa.out.trans r2);have R3:=za (ahp HXa.out Hlt.out r3);clear r1 r2 r3 r4 r5)
 have hxr:=ze R3.out;have hxc:=YY R3.out;have HX:=za hxr;have Hxc:=za hxc;clear hxr hxc R3 HW HWa HXa HB HBa HZ Hlt;with_reducible refine (Zc A5 18 c5 (abY++[0]) w5 R1.out (by decide) (Hchk.out _ R2.out).1.ctab).mono ?_
 rintro e w6 ⟨A6,c6,rfl,-,-,ho,hb⟩;have HX:=za (HX.out.on hb);have HY:=za (show Reads w6 w6.heap.size 1 A6 22 (u8s xs) by rw [Himg.out];exact ze ho);have HB:=za (bon R2.out hb);clear ho hb R1 R2;go_wp2_with fail
 with_reducible refine (aj2 Ax A6 22 cx 22 c6 xs xs _ HX.out HY.out rfl).mono ?_
 rintro e w7 ⟨rfl,rfl⟩;have hal:=bal (Below.refl w6.heap.size w6) (.cells #[.string ⟨#[112]⟩,.int .i64 1,.string ⟨#[112]⟩,.int .i64 2] 90);have HM:=za ((Blk.new w6 90 #[.string ⟨#[112]⟩,.int .i64 1,.string ⟨#[112]⟩,.int .i64 2]).readsN 2 2 (mks [(⟨#[112]⟩,1),(⟨#[112]⟩,2)]) rfl rfl);replace HX:=za (HX.out.on hal);replace HB:=za (bon HB.out hal);clear hal HY;obtain ⟨gm,hgm⟩:∃ gm,gm=w6.heap.size:=⟨_,rfl⟩;go_wp2_with fail
 rw [<-hgm] at HM ⊢;clear hgm;generalize w6.alloc (.cells #[.string ⟨#[112]⟩,.int .i64 1,.string ⟨#[112]⟩,.int .i64 2] 90)=w8 at *;with_reducible refine (ZT 0 0 none 0 0 none 0 0 none 0 0 [] [] [] w8 (StAt.nil _) (by decide) (by decide) (by decide) ajz ael (by decide) (Hchk.out _ HB.out).1 (Hchk.out _ HB.out).2 akt).mono ?_
 rintro e w9 ⟨rfl,hb⟩;replace HX:=za (HX.out.on hb);replace HM:=za (HM.out.on hb);replace HB:=za (bon HB.out hb);clear hb;have hal:=bal (Below.refl w9.heap.size w9) (.cells #[.string ⟨#[112]⟩,.int .i64 (-1)] 90);have HN:=za (YW w9 _ rfl ⟨#[112]⟩ (-1));replace HX:=za (HX.out.on hal);replace HM:=za (HM.out.on hal);replace HB:=za (bon HB.out hal);clear hal;go_wp2_with fail
 generalize w9.alloc (.cells #[.string ⟨#[112]⟩,.int .i64 (-1)] 90)=w10 at *;with_reducible refine (ZT 1 0 (some ⟨w9.heap.size,0,none⟩) 1 1 none 0 0 none 0 0 [(⟨#[112]⟩,-1)] [] [] w10 ⟨HN.out,ItemsAt.nil,Reads.none_⟩ (by decide) (by decide) (by decide) akx ael (by decide) (Hchk.out _ HB.out).1 (Hchk.out _ HB.out).2 aks).mono ?_
 rintro e w11 ⟨rfl,hb⟩;replace HX:=za (HX.out.on hb);replace HM:=za (HM.out.on hb);replace HB:=za (bon HB.out hb);clear hb HN;go_wp2_with fail
 with_reducible refine (ZT 1 0 (some ⟨gm,0,none⟩) 2 2 none 0 0 none 0 0 [(⟨#[112]⟩,1),(⟨#[112]⟩,2)] [] [] w11 ⟨HM.out,ItemsAt.nil,Reads.none_⟩ (by decide) (by decide) (by decide) akw ael (by decide) (Hchk.out _ HB.out).1 (Hchk.out _ HB.out).2 akr).mono ?_
 rintro e w12 ⟨rfl,hb⟩;replace HX:=za (HX.out.on hb);replace HB:=za (bon HB.out hb);clear hb HM;have hal:=bal (bal (Below.refl w12.heap.size w12) (.cells #[.bool false,.int .i64 1,.string ⟨#[]⟩] 23)) (.cells #[.slice (some ⟨w12.heap.size,0,none⟩) 1 1,.int .i64 2] 26);have HN:=za (agc (w:=(w12.alloc (.cells #[.bool false,.int .i64 1,.string ⟨#[]⟩] 23)).alloc (.cells #[.slice (some ⟨w12.heap.size,0,none⟩) 1 1,.int .i64 2] 26)) (g:=w12.heap.size+1) (A:=some ⟨w12.heap.size,0,none⟩) (n:=1) (c:=1) (r:=[(false,1,⟨#[]⟩)]) (x:=2) (Blk.new' _ _ _ _ (by simp)) ((yI w12 _ rfl false 1 ⟨#[]⟩).al _) (by decide) (by decide));replace HX:=za (HX.out.on hal);replace HB:=za (bon HB.out hal);clear hal;go_wp2_with fail
 generalize (w12.alloc (.cells #[.bool false,.int .i64 1,.string ⟨#[]⟩] 23)).alloc (.cells #[.slice (some ⟨w12.heap.size,0,none⟩) 1 1,.int .i64 2] 26)=w13 at *;with_reducible refine (ZT 1 0 none 0 0 (some ⟨w12.heap.size+1,0,none⟩) 1 1 none 0 0 [] [([(false,1,⟨#[]⟩)],2)] [] w13 ⟨Reads.none_,HN.out,Reads.none_⟩ (by decide) (by decide) (by decide) ajz ajX (by decide) (Hchk.out _ HB.out).1 (Hchk.out _ HB.out).2 akq).mono ?_
 rintro e w14 ⟨rfl,hb⟩;replace HX:=za (HX.out.on hb);replace HB:=za (bon HB.out hb);clear hb HN;go_wp2_with fail
 with_reducible refine (Uh _).mono ?_
 rintro e w15 ⟨g3,g4,rfl,hr,hb⟩;have HS:=za (ab9 1 1 w15.heap.size rfl hr (by decide) (by decide));have hal:=bal (Below.refl w15.heap.size w15) (.cells #[.slice (some ⟨g3,0,none⟩) 1 1,.slice (some ⟨g4,0,none⟩) 1 1] 48);replace HX:=za ((HX.out.on hb).on hal);replace HB:=za (bon (bon HB.out hb) hal);clear hal hb hr;go_wp2_with fail
 generalize w15.alloc (.cells #[.slice (some ⟨g3,0,none⟩) 1 1,.slice (some ⟨g4,0,none⟩) 1 1] 48)=w16 at *;with_reducible refine (aak (some ⟨w15.heap.size,0,none⟩) 1 1 [qM] Ax 22 cx xs w16 HS.out (by decide) (by decide) ai8 HX.out Hxc.out.1 Hxc.out.2 (by decide) (Hchk.out _ HB.out).1 (Hchk.out _ HB.out).2).mono ?_
 rintro e w17 ⟨hb,hp⟩;rw [Hpo.out] at hp;obtain ⟨MA,mn,mc,RA,rn,rc,LA,ln,lc,he,hst,hm1,hm2,hm3⟩:=hp;have he2:e=.returned (.tuple #[.agg #[.int .i64 1,.int .i64 0,.slice MA mn mc,.slice RA rn rc,.slice LA ln lc],.int .i64 0]):=he;clear he;subst he2;have hal:=bal (Below.refl w17.heap.size w17) (.cells #[.int .i64 1,.int .i64 0,.slice MA mn mc,.slice RA rn rc,.slice LA ln lc] 51);have HSt:=za (show StAt _ MA mn RA rn LA ln [] [] [] from hst.on hal);replace HB:=za (bon (bon HB.out hb) hal);have hm1':mn<=maxLen:=Nat.le_trans hm1.1 hm1.2;have hm2':rn<=maxLen:=Nat.le_trans hm2.1 hm2.2;clear hal hb hst HS HX;go_wp2_with fail
 generalize w17.alloc (.cells #[.int .i64 1,.int .i64 0,.slice MA mn mc,.slice RA rn rc,.slice LA ln lc] 51)=w18 at *;with_reducible refine (UT 1 0 MA mn mc RA rn rc LA ln lc [] [] [] 1 0 none 0 0 none 0 0 none 0 0 [] [] [] w18 HSt.out (StAt.nil _) hm1' hm2').mono ?_
 rintro e w19 ⟨rfl,hb⟩;replace HB:=za (bon HB.out hb);clear hb HSt;rw [YA];go_wp2_with fail
 with_reducible refine (Xo 3 3 rfl none 0 0 [] w19 Reads.none_ (by decide) (by decide) (by decide) (Hchk.out _ HB.out).1 (Hchk.out _ HB.out).2 ai3).mono ?_
 rintro e w20 ⟨rfl,hb⟩;replace HB:=za (bon HB.out hb);clear hb;have hal:=bal (Below.refl w20.heap.size w20) (.cells #[.int .u8 77,.int .u8 73,.int .u8 2] 5);have HL:=za (qB w20 #[.int .u8 77,.int .u8 73,.int .u8 2] 5 (u8s [77,73,2]) w20.heap.size 3 rfl rfl rfl);replace HB:=za (bon HB.out hal);clear hal;go_wp2_with fail
 generalize w20.alloc (.cells #[.int .u8 77,.int .u8 73,.int .u8 2] 5)=w21 at *;with_reducible refine (Zc (some ⟨w20.heap.size,0,none⟩) 3 3 [77,73,2] w21 HL.out (by decide) (Hchk.out _ HB.out).1.ctab).mono ?_
 rintro e w22 ⟨Aa,ca,rfl,q1,q2,ho,hb⟩;replace HL:=za (ze ho);have Hq:=za (And.intro q1 q2);replace HB:=za (bon HB.out hb);clear hb ho q1 q2;go_wp2_with fail
 with_reducible refine (Xo 280 280 rfl Aa (3+4) ca ([77,73,2]++yj (zZ [77,73,2])) w22 HL.out Hq.out.1 Hq.out.2 (by decide) (Hchk.out _ HB.out).1 (Hchk.out _ HB.out).2 ai2).mono ?_
 rintro e w23 ⟨rfl,hb⟩;replace HB:=za (bon HB.out hb);clear hb HL Hq;have hal:=bal (Below.refl w23.heap.size w23) (.cells #[.int .u8 77,.int .u8 73,.int .u8 1,.int .u8 2] 5);have HL:=za (qB w23 #[.int .u8 77,.int .u8 73,.int .u8 1,.int .u8 2] 5 (u8s [77,73,1,2]) w23.heap.size 4 rfl rfl rfl);replace HB:=za (bon HB.out hal);clear hal;go_wp2_with fail
 generalize w23.alloc (.cells #[.int .u8 77,.int .u8 73,.int .u8 1,.int .u8 2] 5)=w24 at *;with_reducible refine (Zc (some ⟨w23.heap.size,0,none⟩) 4 4 [77,73,1,2] w24 HL.out (by decide) (Hchk.out _ HB.out).1.ctab).mono ?_
 rintro e w25 ⟨Aa,ca,rfl,q1,q2,ho,hb⟩;replace HL:=za (ze ho);have Hq:=za (And.intro q1 q2);replace HB:=za (bon HB.out hb);clear hb ho q1 q2;go_wp2_with fail
 with_reducible refine (Xo 131 131 rfl Aa (4+4) ca ([77,73,1,2]++yj (zZ [77,73,1,2])) w25 HL.out Hq.out.1 Hq.out.2 (by decide) (Hchk.out _ HB.out).1 (Hchk.out _ HB.out).2 ai1).mono ?_
 rintro e w26 ⟨rfl,hb⟩;replace HB:=za (bon HB.out hb);clear hb HL Hq;have hal:=bal (Below.refl w26.heap.size w26) (.cells #[.int .u8 77,.int .u8 73,.int .u8 1,.int .u8 1] 5);have HL:=za (qB w26 #[.int .u8 77,.int .u8 73,.int .u8 1,.int .u8 1] 5 (u8s [77,73,1,1]) w26.heap.size 4 rfl rfl rfl);replace HB:=za (bon HB.out hal);clear hal;go_wp2_with fail
 generalize w26.alloc (.cells #[.int .u8 77,.int .u8 73,.int .u8 1,.int .u8 1] 5)=w27 at *;with_reducible refine (Zc (some ⟨w26.heap.size,0,none⟩) 4 4 [77,73,1,1] w27 HL.out (by decide) (Hchk.out _ HB.out).1.ctab).mono ?_
 rintro e w28 ⟨Aa,ca,rfl,q1,q2,ho,hb⟩;replace HL:=za (ze ho);have Hq:=za (And.intro q1 q2);replace HB:=za (bon HB.out hb);clear hb ho q1 q2;go_wp2_with fail
 with_reducible refine (Xo 280 280 rfl Aa (4+4) ca ([77,73,1,1]++yj (zZ [77,73,1,1])) w28 HL.out Hq.out.1 Hq.out.2 (by decide) (Hchk.out _ HB.out).1 (Hchk.out _ HB.out).2 ai0).mono ?_
 rintro e w29 ⟨rfl,hb⟩;replace HB:=za (bon HB.out hb);clear hb HL Hq;go_wp2;go_ret;exact ⟨rfl,HB.out⟩
end
section
open Go.RowKit Go.Deep Go.ChangeShapes Go.WideShapes Go.Shelf Go.Lib
def akg (c:Co):Prop:=(-9223372036854775808<=c.2.2.1/\c.2.2.1<=9223372036854775807)/\K9 c.2.2.2.2.2.1/\c.2.1.size<=maxLen/\c.2.2.2.2.2.2.size<=maxLen
theorem ag1 {H:Type} {enc:TypeId×Value->H} {w:World} {held:Bool} {a:Option Addr} {len cap:Nat} {d:DataW H} {p:List MemPlace} (h:DataW.Trod enc Tryz.prog w 0 (fun _=>true) held 32 (.slice a len cap) d p) :
  ∃ xs:List Co,Reads w w.heap.size 7 a len (cos xs)/\len<=cap/\cap<=maxLen/\∀ c∈xs,akg c:=by
 haveI:Inhabited Co:=⟨(0,⟨#[]⟩,0,false,false,0,⟨#[]⟩)⟩
 refine Zp 7 coV akg (by decide) (fun _=>rfl) Tryz.underlying32 (by kernel_rfl) (fun n cs y hy=>?_) h;obtain ⟨m,hl,hc⟩:=aaG Tryz.underlying45 hy;rw [show Tryz.prog.cellsOf 45=7 by kernel_rfl] at hl
 match cs,hl with
 | [v0,v1,v2,v3,v4,v5,v6],_=>
  obtain ⟨y0,g0⟩:∃ y,DataW.trod enc Tryz.prog w 0 (fun _=>true) held m 3 (([v0,v1,v2,v3,v4,v5,v6].drop 0).take (Tryz.prog.cellsOf 3))=some y:=hc 0 _ rfl;obtain ⟨y1,g1⟩:∃ y,DataW.trod enc Tryz.prog w 0 (fun _=>true) held m 9 (([v0,v1,v2,v3,v4,v5,v6].drop 1).take (Tryz.prog.cellsOf 9))=some y:=hc 1 _ rfl;obtain ⟨y2,g2⟩:∃ y,DataW.trod enc Tryz.prog w 0 (fun _=>true) held m 43 (([v0,v1,v2,v3,v4,v5,v6].drop 2).take (Tryz.prog.cellsOf 43))=some y:=hc 2 _ rfl;obtain ⟨y3,g3⟩:∃ y,DataW.trod enc Tryz.prog w 0 (fun _=>true) held m 23 (([v0,v1,v2,v3,v4,v5,v6].drop 4).take (Tryz.prog.cellsOf 23))=some y:=hc 3 _ rfl;rw [show Tryz.prog.cellsOf 3=1 by kernel_rfl] at g0;rw [show Tryz.prog.cellsOf 9=1 by kernel_rfl] at g1;rw [show Tryz.prog.cellsOf 43=2 by kernel_rfl] at g2;rw [show Tryz.prog.cellsOf 23=3 by kernel_rfl] at g3;simp only [List.drop_zero,List.drop_succ_cons,List.take_succ_cons,List.take_zero] at g0 g1 g2 g3;obtain ⟨i,e0,-,-⟩:=DataW.trod_int Tryz.underlying3 g0;obtain ⟨s,e1,_,b1⟩:=DataW.trod_string Tryz.underlying9 g1;obtain ⟨k,nl,e2,b2⟩:=ahE g2;obtain ⟨c,e3,b3,b4,b5⟩:=ajt g3;cases e0;cases e1;cases e2;cases e3;exact ⟨(i,s,k,nl,c),rfl,b2,⟨b3,b4⟩,b1,b5⟩
theorem ahL (l:List Int):l.flatMap (fun x=>[Value.int .i64 x])=ins l:=by
 induction l with
 | nil=>rfl
 | cons x l ih=>rw [List.flatMap_cons,ih];rfl
theorem agY {H:Type} {enc:TypeId×Value->H} {w:World} {held:Bool} {a:Option Addr} {len cap:Nat} {d:DataW H} {p:List MemPlace} (h:DataW.Trod enc Tryz.prog w 0 (fun _=>true) held 28 (.slice a len cap) d p) :
  ∃ xs:List Int,Reads w w.heap.size 1 a len (ins xs)/\len<=cap/\cap<=maxLen:=by
 obtain ⟨xs,h1,h2,h3,-⟩:=Zp 1 (fun x:Int=>[Value.int .i64 x]) (fun _=>True) (by decide) (fun _=>rfl) Tryz.underlying28 (by kernel_rfl) (fun n cs y hy=>by
  obtain ⟨i,e0,-,-⟩:=DataW.trod_int Tryz.underlying3 hy;exact ⟨i,e0,trivial⟩) h
 rw [ahL] at h1;exact ⟨xs,h1,h2,h3⟩
structure SchIn (w:World) (B:Nat) (g:Sh) (s:Sc):Prop where
 cols:Reads w B 7 g.1.1 g.1.2.1 (cos s.1)
 keys:Reads w B 1 g.2.1 g.2.2.1 (ins s.2)
 c1:g.1.2.1<=g.1.2.2
 c2:g.1.2.2<=maxLen
 k1:g.2.2.1<=g.2.2.2
 k2:g.2.2.2<=maxLen
 ok:ScOk s
theorem aiR {cs:List Co} {ks:List Int} (h:∀ c∈cs,akg c):ScOk (cs,ks):=⟨fun c hc=>(h c hc).1,fun c hc=>(h c hc).2.1,fun c hc=>(h c hc).2.2.1,fun c hc=>(h c hc).2.2.2⟩
theorem aaT {H:Type} {enc:TypeId×Value->H} {w:World} {held:Bool} {n:Nat} {cs:List Value} {y:DataW H×List MemPlace} (hy:DataW.trod enc Tryz.prog w 0 (fun _=>true) held n 48 cs=some y) :
  ∃ (g:Sh) (s:Sc),cs=scV g/\SchIn w w.heap.size g s:=by
 obtain ⟨m,hl,hc⟩:=yH Tryz.underlying48 (by kernel_rfl) (by kernel_rfl) hy
 match cs,hl with
 | [v0,v1],_=>
  obtain ⟨y0,g0⟩:=hc 0 _ _ rfl rfl;obtain ⟨y1,g1⟩:=hc 1 _ _ rfl rfl;have k0:∃ a l c,v0=.slice a l c:=by
   rcases open_slice Tryz.underlying32 g0 with ⟨e0,-⟩ | ⟨ad,l,c,-,-,-,-,e0,-⟩<;>(cases e0;exact ⟨_,_,_,rfl⟩)
  have k1:∃ a l c,v1=.slice a l c:=by
   rcases open_slice Tryz.underlying28 g1 with ⟨e0,-⟩ | ⟨ad,l,c,-,-,-,-,e0,-⟩<;>(cases e0;exact ⟨_,_,_,rfl⟩)
  obtain ⟨a,l,c,rfl⟩:=k0;obtain ⟨b,k,d,rfl⟩:=k1;obtain ⟨xs,r1,r2,r3,r4⟩:=ag1 (a:=a) (len:=l) (cap:=c) ⟨m,g0⟩;obtain ⟨ks,q1,q2,q3⟩:=agY (a:=b) (len:=k) (cap:=d) ⟨m,g1⟩;exact ⟨((a,l,c),(b,k,d)),(xs,ks),rfl,r1,q1,r2,r3,q2,q3,aiR r4⟩
theorem aiD {cs:Array Value} {cl:List Value} (h:cs.toList=cl):cs=cl.toArray:=by rw [<-h]
theorem aki {H:Type} {enc:TypeId×Value->H} {w:World} {held:Bool} {cs:Array Value} {d:DataW H} {p:List MemPlace} (h:DataW.Trod enc Tryz.prog w 0 (fun _=>true) held 48 (.agg cs) d p) :
  ∃ (CA:Option Addr) (cn cc:Nat) (KA:Option Addr) (kn kc:Nat) (s:Sc),cs=#[.slice CA cn cc,.slice KA kn kc]/\SchIn w w.heap.size ((CA,cn,cc),(KA,kn,kc)) s:=by
 obtain ⟨fuel,hf⟩:=h;obtain ⟨g,s,h1,h2⟩:=aaT hf;exact ⟨g.1.1,g.1.2.1,g.1.2.2,g.2.1,g.2.2.1,g.2.2.2,s,aiD h1,h2⟩
theorem ajK {H:Type} {enc:TypeId×Value->H} {w:World} {held:Bool} {a:Option Addr} {len cap:Nat} {d:DataW H} {p:List MemPlace} (h:DataW.Trod enc Tryz.prog w 0 (fun _=>true) held 59 (.slice a len cap) d p) :
  ∃ l:List (Sh×Sc),Reads w w.heap.size 2 a len (l.flatMap fun q=>scV q.1)/\len<=cap/\cap<=maxLen/\∀ q∈l,SchIn w w.heap.size q.1 q.2:=by
 haveI:Inhabited (Sh×Sc):=⟨((none,0,0),(none,0,0)),[],[]⟩
 exact Zp 2 (fun q:Sh×Sc=>scV q.1) (fun q=>SchIn w w.heap.size q.1 q.2) (by decide) (fun _=>rfl) Tryz.underlying59 (by kernel_rfl) (fun n cs y hy=>by
  obtain ⟨g,s,h1,h2⟩:=aaT hy;exact ⟨(g,s),h1,h2⟩) h
theorem ahD {H:Type} {enc:TypeId×Value->H} {w:World} {held:Bool} {a:Option Addr} {len cap:Nat} {d:DataW H} {p:List MemPlace} (h:DataW.Trod enc Tryz.prog w 0 (fun _=>true) held 49 (.slice a len cap) d p) :
  ∃ xs:List Mk,Reads w w.heap.size 2 a len (mks xs)/\len<=cap/\cap<=maxLen/\UB xs:=by
 haveI:Inhabited Mk:=⟨(⟨#[]⟩,0)⟩
 refine Zp 2 mkV (fun m=>m.1.size<=maxLen /\ -9223372036854775808<=m.2/\m.2<=9223372036854775807) (by decide) (fun _=>rfl) Tryz.underlying49 (by kernel_rfl) (fun n cs y hy=>?_) h;obtain ⟨m,hl,hc⟩:=yH Tryz.underlying90 (by kernel_rfl) (by kernel_rfl) hy
 match cs,hl with
 | [v0,v1],_=>
  obtain ⟨y0,g0⟩:=hc 0 _ _ rfl rfl;obtain ⟨y1,g1⟩:=hc 1 _ _ rfl rfl;obtain ⟨s,e0,_,b0⟩:=DataW.trod_string Tryz.underlying9 g0;obtain ⟨k,e1,_,b1⟩:=DataW.trod_int Tryz.underlying2 g1;cases e0;cases e1;exact ⟨(s,k),rfl,b0,(zR b1).1,(zR b1).2⟩
structure StIn (w:World) (B:Nat) (v q:Int) (MA:Option Addr) (mn mc:Nat) (RA:Option Addr) (rn rc:Nat) (LA:Option Addr) (ln lc:Nat) (ms:List Mk) (l:List It) (la:List UInt8):Prop where
 v9 : -9223372036854775808<=v/\v<=9223372036854775807
 q9 : -9223372036854775808<=q/\q<=9223372036854775807
 marks:Reads w B 2 MA mn (mks ms)
 m1:mn<=mc
 m2:mc<=maxLen
 mok:UB ms
 rows:ItemsAt w B RA rn l
 r1:rn<=rc
 r2:rc<=maxLen
 rok:ItOk l
 last:Reads w B 1 LA ln (u8s la)
 l1:ln<=lc
 l2:lc<=maxLen
theorem akn {H:Type} {enc:TypeId×Value->H} {w:World} {held:Bool} {cs:Array Value} {d:DataW H} {p:List MemPlace} (h:DataW.Trod enc Tryz.prog w 0 (fun _=>true) held 51 (.agg cs) d p) :
  ∃ (v q:Int) (MA:Option Addr) (mn mc:Nat) (RA:Option Addr) (rn rc:Nat) (LA:Option Addr) (ln lc:Nat) (ms:List Mk) (l:List It) (la:List UInt8),cs=#[.int .i64 v,.int .i64 q,.slice MA mn mc,.slice RA rn rc,.slice LA ln lc]/\StIn w w.heap.size v q MA mn mc RA rn rc LA ln lc ms l la:=by
 obtain ⟨fuel,hf⟩:=h;obtain ⟨m,hl,hc⟩:=yH Tryz.underlying51 (by kernel_rfl) (by kernel_rfl) hf;obtain ⟨cl,hcl⟩:∃ cl,cl=cs.toList:=⟨_,rfl⟩;have hcs:cs=cl.toArray:=by rw [hcl]
 have hcells:(Value.agg cs).cells=cs:=rfl;rw [hcells,<-hcl] at hl hc
 match cl,hl with
 | [v0,v1,v2,v3,v4],_=>
  obtain ⟨y0,g0⟩:=hc 0 _ _ rfl rfl;obtain ⟨y1,g1⟩:=hc 1 _ _ rfl rfl;obtain ⟨y2,g2⟩:=hc 2 _ _ rfl rfl;obtain ⟨y3,g3⟩:=hc 3 _ _ rfl rfl;obtain ⟨y4,g4⟩:=hc 4 _ _ rfl rfl;obtain ⟨v,e0,_,b0⟩:=DataW.trod_int Tryz.underlying3 g0;obtain ⟨q,e1,_,b1⟩:=DataW.trod_int Tryz.underlying2 g1;have k2:∃ a l c,v2=.slice a l c:=by
   rcases open_slice Tryz.underlying49 g2 with ⟨e0,-⟩ | ⟨ad,l,c,-,-,-,-,e0,-⟩<;>(cases e0;exact ⟨_,_,_,rfl⟩)
  have k3:∃ a l c,v3=.slice a l c:=by
   rcases open_slice Tryz.underlying27 g3 with ⟨e0,-⟩ | ⟨ad,l,c,-,-,-,-,e0,-⟩<;>(cases e0;exact ⟨_,_,_,rfl⟩)
  have k4:∃ a l c,v4=.slice a l c:=by
   rcases open_slice Tryz.underlying35 g4 with ⟨e0,-⟩ | ⟨ad,l,c,-,-,-,-,e0,-⟩<;>(cases e0;exact ⟨_,_,_,rfl⟩)
  obtain ⟨MA,mn,mc,rfl⟩:=k2;obtain ⟨RA,rn,rc,rfl⟩:=k3;obtain ⟨LA,ln,lc,rfl⟩:=k4;cases e0;cases e1;obtain ⟨ms,q1,q2,q3,q4⟩:=ahD (a:=MA) (len:=mn) (cap:=mc) ⟨m,g2⟩;obtain ⟨l,r1,r2,r3,r4⟩:=ahH (a:=RA) (len:=rn) (cap:=rc) ⟨m,g3⟩;obtain ⟨la,s1,s2,s3⟩:=ajG (a:=LA) (len:=ln) (cap:=lc) g4;exact ⟨v,q,MA,mn,mc,RA,rn,rc,LA,ln,lc,ms,l,la,hcs,zR b0,zR b1,q1,q2,q3,q4,r1,r2,r3,r4,s1,s2,s3⟩
end
section
open Go.RowKit
structure RowsS (w:World) (base:Nat) (A1:Option Addr) (n1 c1:Nat) (A2:Option Addr) (n2 c2:Nat) (s:Sc):Prop where
 cols:w.ownsRow base 45 7 (.slice A1 n1 c1) n1 (cos s.1)
 keys:w.ownsRow base 3 1 (.slice A2 n2 c2) n2 (ins s.2)
structure RowsT (w:World) (base:Nat) (MA:Option Addr) (mn mc:Nat) (RA:Option Addr) (rn rc:Nat) (LA:Option Addr) (ln lc:Nat) (ms:List Mk) (l:List It) (la:List UInt8):Prop where
 marks:w.ownsRow base 90 2 (.slice MA mn mc) mn (mks ms)
 rows:ItemsOwn w base RA rn rc l
 last:w.ownsRow base 5 1 (.slice LA ln lc) ln (u8s la)
section
variable {w w':World} {base base2 g:Nat} {A1 A2 MA RA LA:Option Addr} {n1 c1 n2 c2 mn mc rn rc ln lc:Nat} {s:Sc} {ms:List Mk} {l:List It} {la:List UInt8} {cs:Array Value} {a b c d e:Value}
theorem RowsS.on (h:RowsS w base A1 n1 c1 A2 n2 c2 s) (hb:Below w.heap.size w w'):RowsS w' base A1 n1 c1 A2 n2 c2 s:=⟨zd h.cols hb,zd h.keys hb⟩
theorem RowsS.at_ (h:RowsS w base A1 n1 c1 A2 n2 c2 s):ScAt w A1 n1 A2 n2 s:=⟨ze h.cols,ze h.keys⟩
theorem RowsT.on (h:RowsT w base MA mn mc RA rn rc LA ln lc ms l la) (hb:Below w.heap.size w w'):RowsT w' base MA mn mc RA rn rc LA ln lc ms l la:=⟨zd h.marks hb,h.rows.below hb,zd h.last hb⟩
theorem RowsT.at_ (h:RowsT w base MA mn mc RA rn rc LA ln lc ms l la):StAt w MA mn RA rn LA ln ms l la:=⟨ze h.marks,h.rows.at_,ze h.last⟩
theorem Ug {size n:Nat} {t et:TypeId} {v:Value} {xs:List Value} (h:w.ownsRow base et size v n xs) (hb:Blk w g t cs) (hne:et≠t):((w.setCell ⟨g,0,none⟩ a).setCell ⟨g,1,none⟩ b).ownsRow base et size v n xs:=zf (zf h hb hne 0 a) (hb.set_ 0 a) hne 1 b
theorem RowsS.far2 (h:RowsS w base A1 n1 c1 A2 n2 c2 s) (hb:Blk w g 48 cs):RowsS ((w.setCell ⟨g,0,none⟩ a).setCell ⟨g,1,none⟩ b) base A1 n1 c1 A2 n2 c2 s:=⟨Ug h.cols hb (by decide),Ug h.keys hb (by decide)⟩
theorem RowsS.far5 (h:RowsS w base A1 n1 c1 A2 n2 c2 s) (hb:Blk w g 51 cs):RowsS (((((w.setCell ⟨g,0,none⟩ a).setCell ⟨g,1,none⟩ b).setCell ⟨g,2,none⟩ c).setCell ⟨g,3,none⟩ d).setCell ⟨g,4,none⟩ e) base A1 n1 c1 A2 n2 c2 s:=⟨yq h.cols hb (by decide) _ _ _ _ _,yq h.keys hb (by decide) _ _ _ _ _⟩
theorem RowsT.far2 (h:RowsT w base MA mn mc RA rn rc LA ln lc ms l la) (hb:Blk w g 48 cs):RowsT ((w.setCell ⟨g,0,none⟩ a).setCell ⟨g,1,none⟩ b) base MA mn mc RA rn rc LA ln lc ms l la:=⟨Ug h.marks hb (by decide),(h.rows.far hb (by decide) (by decide) 0 a).far (hb.set_ 0 a) (by decide) (by decide) 1 b,Ug h.last hb (by decide)⟩
theorem RowsT.far5 (h:RowsT w base MA mn mc RA rn rc LA ln lc ms l la) (hb:Blk w g 51 cs):RowsT (((((w.setCell ⟨g,0,none⟩ a).setCell ⟨g,1,none⟩ b).setCell ⟨g,2,none⟩ c).setCell ⟨g,3,none⟩ d).setCell ⟨g,4,none⟩ e) base MA mn mc RA rn rc LA ln lc ms l la:=⟨yq h.marks hb (by decide) _ _ _ _ _,qW h.rows hb (by decide) (by decide) _ _ _ _ _,yq h.last hb (by decide) _ _ _ _ _⟩
theorem Blk.far2 {k:Nat} {t:TypeId} (h:Blk w k t cs) (hk:k≠g):Blk ((w.setCell ⟨g,0,none⟩ a).setCell ⟨g,1,none⟩ b) k t cs:=(h.far (p:=⟨g,0,none⟩) hk a).far (p:=⟨g,1,none⟩) hk b
theorem Blk.far5 {k:Nat} {t:TypeId} (h:Blk w k t cs) (hk:k≠g):Blk (((((w.setCell ⟨g,0,none⟩ a).setCell ⟨g,1,none⟩ b).setCell ⟨g,2,none⟩ c).setCell ⟨g,3,none⟩ d).setCell ⟨g,4,none⟩ e) k t cs:=((((h.far (p:=⟨g,0,none⟩) hk a).far (p:=⟨g,1,none⟩) hk b).far (p:=⟨g,2,none⟩) hk c).far (p:=⟨g,3,none⟩) hk d).far (p:=⟨g,4,none⟩) hk e
theorem aka {w0:World} {B:Nat} (h:Below B w0 w) (hB:B<=g):Below B w0 ((w.setCell ⟨g,0,none⟩ a).setCell ⟨g,1,none⟩ b):=(h.setCell (p:=⟨g,0,none⟩) hB a).setCell (p:=⟨g,1,none⟩) hB b
theorem aj9 {w0:World} {B:Nat} (h:Below B w0 w) (hB:B<=g):Below B w0 (((((w.setCell ⟨g,0,none⟩ a).setCell ⟨g,1,none⟩ b).setCell ⟨g,2,none⟩ c).setCell ⟨g,3,none⟩ d).setCell ⟨g,4,none⟩ e):=((((h.setCell (p:=⟨g,0,none⟩) hB a).setCell (p:=⟨g,1,none⟩) hB b).setCell (p:=⟨g,2,none⟩) hB c).setCell (p:=⟨g,3,none⟩) hB d).setCell (p:=⟨g,4,none⟩) hB e
theorem Blk.set2 {t:TypeId} {x y:Value} (h:Blk w g t #[x,y]):Blk ((w.setCell ⟨g,0,none⟩ a).setCell ⟨g,1,none⟩ b) g t #[a,b]:=by
 have:=(h.set_ 0 a).set_ 1 b;simpa using this
theorem Blk.set5 {t:TypeId} {x y z u v:Value} (h:Blk w g t #[x,y,z,u,v]):Blk (((((w.setCell ⟨g,0,none⟩ a).setCell ⟨g,1,none⟩ b).setCell ⟨g,2,none⟩ c).setCell ⟨g,3,none⟩ d).setCell ⟨g,4,none⟩ e) g t #[a,b,c,d,e]:=by
 have:=((((h.set_ 0 a).set_ 1 b).set_ 2 c).set_ 3 d).set_ 4 e;simpa using this
end
theorem ScAt.of_in {w:World} {g:Sh} {s:Sc} (h:SchIn w w.heap.size g s):ScAt w g.1.1 g.1.2.1 g.2.1 g.2.2.1 s:=⟨h.cols,h.keys⟩
structure LawS (g:Nat) (A1:Option Addr) (n1 c1:Nat) (A2:Option Addr) (n2 c2:Nat) (s:Sc) (wc:World):Prop where
 box:Blk wc g 48 #[.slice A1 n1 c1,.slice A2 n2 c2]
 at_:ScAt wc A1 n1 A2 n2 s
 le1:n1<=40
 le2:n2<=12
 ok:ScOk s
structure LawT (g:Nat) (v q:Int) (MA:Option Addr) (mn mc:Nat) (RA:Option Addr) (rn rc:Nat) (LA:Option Addr) (ln lc:Nat) (ms:List Mk) (l:List It) (la:List UInt8) (wc:World):Prop where
 box:Blk wc g 51 #[.int .i64 v,.int .i64 q,.slice MA mn mc,.slice RA rn rc,.slice LA ln lc]
 at_:StAt wc MA mn RA rn LA ln ms l la
 m20:mn<=20
 r20:rn<=20
 l300:ln<=300
 mok:UB ms
 iok:ItOk l
 q9:q<=9223372036854775807
section
variable {wc w':World} {g:Nat} {A1 A2 MA RA LA:Option Addr} {n1 c1 n2 c2 mn mc rn rc ln lc:Nat} {s:Sc} {v q:Int} {ms:List Mk} {l:List It} {la:List UInt8}
theorem LawS.on (h:LawS g A1 n1 c1 A2 n2 c2 s wc) (hb:Below wc.heap.size wc w'):LawS g A1 n1 c1 A2 n2 c2 s w':=⟨h.box.on hb,h.at_.on hb,h.le1,h.le2,h.ok⟩
theorem LawT.on (h:LawT g v q MA mn mc RA rn rc LA ln lc ms l la wc) (hb:Below wc.heap.size wc w'):LawT g v q MA mn mc RA rn rc LA ln lc ms l la w':=⟨h.box.on hb,h.at_.on hb,h.m20,h.r20,h.l300,h.mok,h.iok,h.q9⟩
theorem LawT.chk (h:LawT g v q MA mn mc RA rn rc LA ln lc ms l la wc) {k:Nat} (hs:LawS k A1 n1 c1 A2 n2 c2 s wc):ChkOk n1 n2 mn rn ln s (v,q,ms,l,la):=by
 have h1:=hs.le1;have h2:=hs.le2;have h3:=h.m20;have h4:=h.r20;have h5:=h.l300;exact ⟨by omega,by omega,by simp only [maxLen];omega,by simp only [maxLen];omega,by simp only [maxLen];omega,hs.ok,h.mok,h.iok⟩
theorem ajV (h:LawT g v q MA mn mc RA rn rc LA ln lc ms l la wc) {k:Nat} (hs:LawS k A1 n1 c1 A2 n2 c2 s wc) (hT:Tab2 wc.heap.size wc) (hE:ErrT wc) :
  Calls Tryz.prog 20 #[.agg #[.slice A1 n1 c1,.slice A2 n2 c2],.agg #[.int .i64 v,.int .i64 q,.slice MA mn mc,.slice RA rn rc,.slice LA ln lc]] wc (aeP (Zi s (v,q,ms,l,la)) (ZV s (v,q,ms,l,la)) wc):=
 VY A1 n1 c1 A2 n2 c2 s MA mn mc RA rn rc LA ln lc (v,q,ms,l,la) wc ⟨hs.at_,h.at_,hT.tabs⟩ (h.chk hs) h.q9 hT hE
theorem akl (h:LawT g v q MA mn mc RA rn rc LA ln lc ms l la wc) {v' q':Int} {MB RB LB:Option Addr} {mm md rm rd lm ld:Nat} {ms':List Mk} {l':List It} {la':List UInt8} (h2:StAt wc MB mm RB rm LB lm ms' l' la') :
  Calls Tryz.prog 24 #[.agg #[.int .i64 v,.int .i64 q,.slice MA mn mc,.slice RA rn rc,.slice LA ln lc],.agg #[.int .i64 v',.int .i64 q',.slice MB mm md,.slice RB rm rd,.slice LB lm ld]] wc fun e w'=>e=.returned (.bool (XR (v,q,ms,l,la) (v',q',ms',l',la')))/\Below wc.heap.size wc w':=
 UT v q MA mn mc RA rn rc LA ln lc ms l la v' q' MB mm md RB rm rd LB lm ld ms' l' la' wc h.at_ h2 (by have:=h.m20;simp only [maxLen];omega) (by have:=h.r20;simp only [maxLen];omega)
end
end
end Go.Proofs.YtjpjalmilfgckaaGreatDoor
