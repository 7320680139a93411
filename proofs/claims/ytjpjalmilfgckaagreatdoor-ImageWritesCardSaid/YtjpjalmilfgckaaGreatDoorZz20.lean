/- Part 20 of the walks. Conditions: each lemma states its own. -/
import Derived.Test.YtjpjalmilfgckaaGreatDoorZz19
import Derived.OwnWalkIn
import Derived.TacticsInMore
import Derived.LoopNIn
import Derived.LoopIn
import Derived.OrdersIn
import Derived.TacticsIn
import Derived.RangeFuncCalls
set_option maxRecDepth 100000
set_option maxHeartbeats 4000000
set_option linter.unusedVariables false
set_option linter.unusedSimpArgs false
namespace Go.Proofs.YtjpjalmilfgckaaGreatDoor
section
open Go.RowKit
variable {n:Nat} {P:Program}
theorem YS {α:Type} {g:Operand} {ps:Array Tmp} {assign body:Code} {Q:Exit->Act->World->Prop} {a:Act} {w:World}
  (h1:1<=n) {gf:Nat} {lb:Array Value} (hg:a.eval g=.func (.func gf) #[] lb) (eg:∀ args w,(callFunc gf args).run P w=.ok (.enter gf args) w)
  {encs:α->Array Value} {S Sp:List α->Prop} {base:Nat} {w0:World} (hseq:akF (n-1) P gf lb encs base S Sp w0) (hb0:Below w0.heap.size w0 w) (hps:∀ x,(encs x).size=ps.size) (hbase:base<=w.heap.size)
  (I:List α->World->Prop) (Ix:Code->List α->World->Prop) (hI:∀ s A A',I s A->Below w.heap.size A A'->I s A') (hIx:∀ c s A A',Ix c s A->Below w.heap.size A A'->Ix c s A') (h0:I [] w) (R:List α->α->Act->World->Prop)
  (hR:∀ pre x a1 W1 o,R pre x a1 W1->w.heap.size+2<=W1.heap.size->R pre x a1 (W1.putObj (w.heap.size+1) o))
  (hassign : ∀ (l : Nat) (pre : List α) (x : α) (W : World) (K : Act → World → Prop), I pre W → w.heap.size + 2 ≤ W.heap.size → (∀ a1 W1, Mid base w.heap.size W W1 → R pre x a1 W1 → K a1 W1) →
   assign.wpIn (Fence.wide.inRound l) (n-1-1) P (Exit.then K (fun _ _ _=>False)) { tmps:=(ps.zip (encs x)).foldl (fun t (p,v)=>t.setIfInBounds p v) a.tmps,defers:=[] } W)
  (hbody:∀ (l:Nat) (pre:List α) (x:α) (a1:Act) (W:World),R pre x a1 W->w.heap.size<=W.heap.size->body.wpIn (Fence.wide.inRound l) (n-1-1) P (aku base w.heap.size I Ix (pre++[x]) W) a1 W)
  (hdone:∀ (D:Nat) (xs:List α) (W:World),w.heap.size<=D->S xs->I xs W->W.heap[D]? = some (.deferred (some []))->Q .normal { a with defers:={ target:=.collected D,args:=#[] }::a.defers } W)
  (hstop:∀ (D:Nat) (c:Code) (pre:List α) (W:World),w.heap.size<=D->Sp pre->Ix c pre W->W.heap[D]? = some (.deferred (some []))->c.wpIn Fence.wide n P Q { a with defers:={ target:=.collected D,args:=#[] }::a.defers } W) :
  (Code.rangeFunc g ps assign body).wpIn Fence.wide n P Q a w:=by
 refine wpIn_rangeFunc ?_;intro fn hfn;rw [show Fence.wide.round=none from rfl];obtain ⟨rec,hrec⟩:∃ rec:LoopState->Option Code->Loop,rec=fun st pe=>{ state:=st,pending:=pe,fn,tmps:=a.tmps,params:=ps,assign,body,defers:=w.heap.size }:=⟨_,rfl⟩;obtain ⟨W1,hW1⟩:∃ W1,(w.alloc (.deferred (some []))).alloc (.loop (rec .ready none))=W1:=⟨_,rfl⟩;have hL1:W1.heap[w.heap.size+1]? = some (.loop (rec .ready none)):=by
  rw [<-hW1];have:=World.alloc_heap_new (w.alloc (.deferred (some []))) (.loop (rec .ready none));rwa [World.size_alloc] at this
 have hK1:W1.heap[w.heap.size]? = some (.deferred (some [])):=by
  rw [<-hW1];exact (Below.heap_alloc _ _ _ (by simp)).trans (World.alloc_heap_new w _)
 have hwW:Below w.heap.size w W1:=by rw [<-hW1];exact ((Below.refl _ w).alloc (Nat.le_refl _) _).alloc (by simp) _
 have hI1:I [] W1:=hI _ _ _ h0 hwW;have hb1:Below w0.heap.size w0 W1:=hb0.trans (hwW.mono hb0.size);have hs1:W1.heap.size=w.heap.size+2:=by rw [<-hW1];simp
 refine ⟨w.heap.size+1,[{ target:=.collected w.heap.size,args:=#[] }],W1,{ target:=.fn (.func gf) lb,args:=#[.func (.yield (w.heap.size+1)) #[] #[]] },W1,gf,
  #[.func (.yield (w.heap.size+1)) #[] #[]]++lb,W1,?_,?_,?_,?_,fun _=>h1,?_⟩
 ·rw [<-hW1,hrec];exact run_enterLoop_outer _ _ _ _ _
 ·simp only [resolve,hg];simp [go_sem]
 ·intro f' hf';exact trivial
 ·simp [invoke,go_sem,eg]
 refine (hseq (w.heap.size+1)
  (fun pre W=>I pre W/\W.heap[w.heap.size+1]? = some (.loop (rec .ready none))/\W.heap[w.heap.size]? = some (.deferred (some [])))
  (fun pre W=>∃ c,Ix c pre W/\W.heap[w.heap.size+1]? = some (.loop (rec .done (some c)))/\W.heap[w.heap.size]? = some (.deferred (some [])))
  W1 hb1
  (fun s A A' hs hb=>⟨hI s A A' hs.1 (hb.mono (by omega)),(hb.block _ (by omega)).trans hs.2.1,(hb.block _ (by omega)).trans hs.2.2⟩)
  (fun s A A' hs hb => by
   obtain ⟨c,hc,hl,hk⟩:=hs;exact ⟨c,hIx c s A A' hc (hb.mono (by omega)),(hb.block _ (by omega)).trans hl,(hb.block _ (by omega)).trans hk⟩)
  ?_ ⟨hI1,hL1,hK1⟩).mono ?_
 ·rintro pre x W ⟨hi,hl,hk⟩;have hlt:w.heap.size+1<W.heap.size:=(Array.getElem?_eq_some_iff.1 hl).1;have hy:=run_yield (P:=P) (args:=encs x) hl (by rw [hrec];exact hps x);rw [hrec] at hy;refine ⟨fn,_,assign,body,hy,roundIn_of_wpIn hfn (hassign _ pre x W _ hi (by omega) fun a4 W4 hm4 hr4=>⟨_,run_beginRound ((hm4.block (w.heap.size+1) hlt (.inr (by omega))).trans hl) (by rw [hrec]),?_⟩)⟩;have hz4:=hm4.size;have hl4:=(hm4.block (w.heap.size+1) hlt (.inr (by omega))).trans hl;have hk4:=(hm4.block w.heap.size (by omega) (.inr (Nat.le_refl _))).trans hk;have hl2:(W4.putObj (w.heap.size+1) (.loop { rec .ready none with state:=.busy })).heap[w.heap.size+1]? = some (.loop { rec .ready none with state:=.busy }):=World.putObj_heap_same (by omega);have hk2:(W4.putObj (w.heap.size+1) (.loop { rec .ready none with state:=.busy })).heap[w.heap.size]? = some (.deferred (some [])):=(World.putObj_heap_other (by omega)).trans hk4;have hw2:Mid base W1.heap.size W (W4.putObj (w.heap.size+1) (.loop { rec .ready none with state:=.busy })):=(hm4.mono (Nat.le_refl _) (by omega)).trans (Mid.put _ _ _ _ _ (by omega) (by omega));have hz2:=hw2.size;have hr5:R pre x a4 (W4.putObj (w.heap.size+1) (.loop { rec .ready none with state:=.busy })):=hR _ _ _ _ _ hr4 (by omega);refine wpIn_mono (hbody _ pre x a4 _ hr5 (Nat.le_trans (show w.heap.size<=W.heap.size by omega) hz2)) ?_;have fin:∀ (jump:Option Code) (W3:World),Mid base w.heap.size (W4.putObj (w.heap.size+1) (.loop { rec .ready none with state:=.busy })) W3 ->
    (Instr.endRound (w.heap.size+1) jump).run P W3=.ok (.bool jump.isNone) (W3.putObj (w.heap.size+1) (.loop (rec (if jump.isNone then .ready else .done) jump))) /\
    (W3.putObj (w.heap.size+1) (.loop (rec (if jump.isNone then .ready else .done) jump))).heap[w.heap.size+1]? = some (.loop (rec (if jump.isNone then .ready else .done) jump)) /\
    (W3.putObj (w.heap.size+1) (.loop (rec (if jump.isNone then .ready else .done) jump))).heap[w.heap.size]? = some (.deferred (some [])) /\
    Mid base W1.heap.size W (W3.putObj (w.heap.size+1) (.loop (rec (if jump.isNone then .ready else .done) jump))) /\
    Below w.heap.size W3 (W3.putObj (w.heap.size+1) (.loop (rec (if jump.isNone then .ready else .done) jump))):=fun jump W3 hk3=>by
   have hl3:=(hk3.block (w.heap.size+1) (by omega) (.inr (by omega))).trans hl2;have hd3:=(hk3.block w.heap.size (by omega) (.inr (Nat.le_refl _))).trans hk2;have hz3:=hk3.size;have:=run_endRound (P:=P) jump hl3;rw [hrec] at this ⊢;exact ⟨this,World.putObj_heap_same (Array.getElem?_eq_some_iff.1 hl3).1,(World.putObj_heap_other (by omega)).trans hd3,(hw2.trans (hk3.mono (Nat.le_refl _) (by omega))).trans (Mid.put _ _ _ _ _ (by omega) (by omega)),q8 _ _ _ _ (by omega) (by omega)⟩
  rintro e a3 W3 hp;cases e with
  | normal=>
   obtain ⟨hk3,hi3⟩:=hp;obtain ⟨hr,hl4,hk4,hm4,hb4⟩:=fin none W3 hk3;exact ⟨_,_,hr,.inl ⟨rfl,⟨hI _ _ _ hi3 hb4,hl4,hk4⟩,hm4⟩⟩
  | ret=>
   obtain ⟨hk3,hi3⟩:=hp;obtain ⟨hr,hl4,hk4,hm4,hb4⟩:=fin (some .ret) W3 hk3;exact ⟨_,_,hr,.inr ⟨rfl,⟨.ret,hIx _ _ _ _ hi3 hb4,hl4,hk4⟩,hm4⟩⟩
  | exit id=>
   obtain ⟨hk3,hi3⟩:=hp;obtain ⟨hr,hl4,hk4,hm4,hb4⟩:=fin (some (.exit id)) W3 hk3;exact ⟨_,_,hr,.inr ⟨rfl,⟨.exit id,hIx _ _ _ _ hi3 hb4,hl4,hk4⟩,hm4⟩⟩
  | goto t=>
   obtain ⟨hk3,hi3⟩:=hp;obtain ⟨hr,hl4,hk4,hm4,hb4⟩:=fin (some (.goto t)) W3 hk3;exact ⟨_,_,hr,.inr ⟨rfl,⟨.goto t,hIx _ _ _ _ hi3 hb4,hl4,hk4⟩,hm4⟩⟩
  | panic ch=>exact hp.elim
  | outgrown=>exact hp.elim
 rintro e W2 ⟨⟨v,rfl⟩,(⟨xs,hS,hi,hl,hk⟩ | ⟨pre,hSp,c,hi,hl,hk⟩)⟩
 ·have hlt:=(Array.getElem?_eq_some_iff.1 hl).1;exact ⟨none,_,by have:=run_endLoop (P:=P) hl (by rw [hrec];simp);rw [hrec] at this;exact this,hdone _ xs _ (Nat.le_refl _) hS (hI _ _ _ hi (q8 _ _ _ _ (by omega) (by omega))) ((World.putObj_heap_other (by omega)).trans hk)⟩
 have hlt:=(Array.getElem?_eq_some_iff.1 hl).1;exact ⟨some c,_,by have:=run_endLoop (P:=P) hl (by rw [hrec];simp);rw [hrec] at this;exact this,hstop _ c pre _ (Nat.le_refl _) hSp (hIx c _ _ _ hi (q8 _ _ _ _ (by omega) (by omega))) ((World.putObj_heap_other (by omega)).trans hk)⟩
end
section
open Go.RowKit
attribute [local go_sem] Oper.semAt_some
theorem ajE (k:Nat):Fence.wide.room k:=fun d h=>by simp [Fence.wide] at h
theorem RoundIn.anyW2 {m m':Nat} {P:Program} {l:Nat} {f:FuncId} {tmps:Array Value} {assign body:Code} {w:World} {R:Ending->World->Prop}
  (h:RoundIn Fence.wide m P l f tmps assign body w R):RoundIn Fence.wide m' P l f tmps assign body w R:=⟨h.1,fun c cs _=>h.2 c cs (ajE _)⟩
abbrev coT (c:Co):Array Value:=#[.int .i64 c.1,.agg #[.int .i64 c.1,.string c.2.1,.int .i64 c.2.2.1,.bool c.2.2.2.1,.bool c.2.2.2.2.1,.int .i64 c.2.2.2.2.2.1,.string c.2.2.2.2.2.2]]
theorem afb (CA:Option Addr) (cn cc:Nat) (KA:Option Addr) (kn kc:Nat) (w:World) :
  Calls Tryz.prog 136 #[.agg #[.slice CA cn cc,.slice KA kn kc]] w fun e w'=>e=.returned (.func (.func 185) #[] #[.pointer (some ⟨w.heap.size,0,none⟩)]) /\
   w'=w.alloc (.cells #[.slice CA cn cc,.slice KA kn kc] 48):=by
 go_enter Tryz.func136,Tryz.ntmps136;go_wp2;go_ret;exact ⟨rfl,rfl⟩
theorem ac6 {cs:List Co} {k:Nat} {co:Co} (h:cs[k]? = some co):cs.take (k+1)=cs.take k++[co]:=by
 rw [List.take_add_one,h];rfl
theorem acS (N base g:Nat) (CA:Option Addr) (cn cc:Nat) (kv:Value) (cs:List Co) (w:World) (hbw:base<=w.heap.size) (hg:Blk w g 48 #[.slice CA cn cc,kv]) (hr:Reads w base 7 CA cn (cos cs)) (hcn:cn<=1000000) :
  akF N Tryz.prog 185 #[.pointer (some ⟨g,0,none⟩)] coT base (fun xs=>xs=cs) (fun pre=>pre <+: cs) w:=by
 intro l J Jx W hW hJs hXs hY h0;have HC:=za (hr.below (hW.mono hbw));have Hl:=za (zU hr);have HYY:=za hY;have HJs:=za hJs;have HJ0:=za h0;have c0:=(hg.on hW).cell 0;have hcn63:cn<=9223372036854775807:=by omega
 have hbW:base<=W.heap.size:=Nat.le_trans hbw hW.size;clear hr hY hJs hXs h0 hg hW;rw [show (#[Value.func (.yield l) #[] #[]]++#[Value.pointer (some ⟨g,0,none⟩)])=#[Value.func (.yield l) #[] #[],Value.pointer (some ⟨g,0,none⟩)] from rfl];refine callsIn_of_wp Tryz.func185 rfl trivial ?_ rfl;simp only [Tryz.ntmps185,List.size_toArray,List.length_cons,List.length_nil,Nat.reduceAdd,Nat.reduceSub,Array.replicate_succ,Array.replicate_zero,List.push_toArray,List.append_toArray,List.nil_append,List.cons_append]
 gi_wp2
 clear c0
 gi_loopw [8] (fun ix wr=>∃ k:Nat,k<=cn/\ix=.int .i64 (k:Int)/\Hid (J (cs.take k) wr)/\Hid (Below base W wr)) (fun ix _=>cn-(intOf ix).toNat)
 case atStart=>exact ⟨0,Nat.zero_le _,rfl,by rw [List.take_zero];exact HJ0,za (Below.refl _ _)⟩
 case round=>
  clear HJ0;obtain ⟨k,hk,rfl,HJ,HB⟩:=hrel;by_cases hlt:k<cn
  ·have hki:(k:Int)<(cn:Int):=(by omega);have hsz:W.heap.size<=wr.heap.size:=HB.out.size;obtain ⟨ad,co,rfl,hbk,hco,hat⟩:=yP (HC.out.below HB.out) hlt;have h0:=hat.c0;have h1:=hat.c1;have h2:=hat.c2;have h3:=hat.c3;have h4:=hat.c4;have h5:=hat.c5;have h6:=hat.c6;have Htk:=za (ac6 hco);have Hpx:=za (show cs.take (k+1) <+: cs from List.take_prefix _ _);obtain ⟨fn,tmps,assign,body,hy,hR⟩:=HYY.out (cs.take k) co (wr.alloc (.cells #[.int .i64 co.1,.string co.2.1,.int .i64 co.2.2.1,.bool co.2.2.2.1,.bool co.2.2.2.2.1,.int .i64 co.2.2.2.2.2.1,.string co.2.2.2.2.2.2] 45)) (HJs.out _ _ _ HJ.out ((Below.refl _ _).alloc hsz _));have HBa:=za (HB.out.alloc (show base<=wr.heap.size by omega) (.cells #[.int .i64 co.1,.string co.2.1,.int .i64 co.2.2.1,.bool co.2.2.2.1,.bool co.2.2.2.2.1,.int .i64 co.2.2.2.2.2.1,.string co.2.2.2.2.2.2] 45));have hsa:base<=(wr.alloc (.cells #[.int .i64 co.1,.string co.2.1,.int .i64 co.2.2.1,.bool co.2.2.2.1,.bool co.2.2.2.2.1,.int .i64 co.2.2.2.2.2.1,.string co.2.2.2.2.2.2] 45)).heap.size:=Nat.le_trans hbW HBa.out.size;have Hsa:=za hsa;clear hco hat hbk hsa
   gi_wp2_with fail
   refine ⟨fun h=>by simp [Fence.wide] at h,(RoundIn.anyW2 hR).mono ?_⟩;clear hR;rintro e W3 (⟨rfl,hJ3,hm3⟩ | ⟨rfl,hx3,hm3⟩)
   ·rw [<-Htk.out] at hJ3;have HJ3:=za hJ3;have HB3:=za (HBa.out.trans (hm3.below Hsa.out));clear hJ3 hm3 hy h0 h1 h2 h3 h4 h5 h6
    gi_wp2
    go_roundw;case rel=>exact ⟨k+1,by omega,by go_num,HJ3,HB3⟩
    case measure=>simp [intOf];omega
   rw [<-Htk.out] at hx3;have HX:=za hx3;clear hx3 hm3 hy h0 h1 h2 h3 h4 h5 h6
   gi_wp2
   refine bodyPost_ret (results_none rfl _ _ _) rfl ?_;exact ⟨⟨_,rfl⟩,.inr ⟨_,Hpx.out,HX.out⟩⟩
  obtain rfl:k=cn:=by omega
  have HX:=za (show J cs wr by
   have:=HJ.out;rwa [List.take_of_length_le (by rw [Hl.out];exact Nat.le_refl _)] at this)
  gi_wp2
  go_end0
  exact ⟨⟨_,rfl⟩,.inl ⟨_,rfl,HX.out⟩⟩
end
section
open Go.RowKit
attribute [local go_sem] Oper.semAt_some
theorem Blk.belowL2 {w w':World} {B g:Nat} {t:TypeId} {cs:Array Value} (h:Blk w g t cs) (hb:Below B w w') (hg:g<B):Blk w' g t cs:=(hb.block g hg).trans h
theorem Blk.put2 {w:World} {g l:Nat} {t:TypeId} {cs:Array Value} (h:Blk w g t cs) (o:Obj) (hl:l≠g):Blk (w.putObj l o) g t cs:=(World.putObj_heap_other (by omega)).trans h
theorem aga (s:Sc):acJ s.1=YQ s:=rfl
theorem Up (CA:Option Addr) (cn cc:Nat) (KA:Option Addr) (kn kc:Nat) (s:Sc) (w:World) (h:ScAt w CA cn KA kn s) (hcn:cn<=1000000) :
  Calls Tryz.prog 79 #[.agg #[.slice CA cn cc,.slice KA kn kc]] w fun e w'=>e=.returned (.int .i64 (YQ s))/\Below w.heap.size w w':=by
 obtain ⟨W,hW1⟩:∃ W,(w.alloc (.cells #[.slice CA cn cc,.slice KA kn kc] 48)).alloc (.cells #[.int .i64 0] 3)=W:=⟨_,rfl⟩;have HB:=za (show Below w.heap.size w W by rw [<-hW1];exact bal (bal (Below.refl _ _) _) _);have BS:=za (show Blk W w.heap.size 48 #[.slice CA cn cc,.slice KA kn kc] by rw [<-hW1];exact (Blk.new w _ _).alloc _);have BN:=za (show Blk W (w.heap.size+1) 3 #[.int .i64 0] by rw [<-hW1];exact Blk.new' _ _ _ _ (by simp));have HR:=za h.cols;have s0:=BS.out.cell 0;have s1:=BS.out.cell 1;clear h;refine (callsIn_wide (n:=10)).1 ?_;refine callsIn_of_wp_marks Tryz.func79 rfl trivial ?_ rfl;simp only [Tryz.ntmps79,List.size_toArray,List.length_cons,List.length_nil,Nat.reduceAdd,Nat.reduceSub,Array.replicate_succ,Array.replicate_zero,List.push_toArray,List.append_toArray,List.nil_append,List.cons_append]
 gi_wp2_with fail
 try rw [hW1]
 clear hW1 s0 s1;refine ⟨trivial,(callsIn_wide.2 (afb CA cn cc KA kn kc W)).mono ?_⟩;rintro e w2 ⟨rfl,hw2⟩;have HC2:=za (show Blk w2 W.heap.size 48 #[.slice CA cn cc,.slice KA kn kc] by rw [hw2];exact Blk.new _ _ _);have hb2:Below W.heap.size W w2:=by rw [hw2];exact bal (Below.refl _ _) _
 have HN2:=za (BN.out.on hb2);have HB2:=za (bon HB.out hb2);clear hw2 hb2 BN
 gi_wp2_with fail
 have hb02:=HB2.out.size;have hz1:w.heap.size+1<w2.heap.size:=HN2.out.lt;refine YS (n:=10) (by decide) (gf:=185) (lb:=#[.pointer (some ⟨W.heap.size,0,none⟩)]) rfl (fun args w=>zm Tryz.func185 (by kernel_rfl) (by kernel_rfl) args w)
  (acS 9 w.heap.size W.heap.size CA cn cc (.slice KA kn kc) s.1 w2 hb02 HC2.out (HR.out.below HB2.out) hcn) (Below.refl _ _) (fun _=>rfl) hb02
  (fun pre W=>Blk W (w.heap.size+1) 3 #[.int .i64 (acJ pre)]/\Below w.heap.size w W) (fun _ _ _=>False)
  (fun s A A' h hb=>⟨h.1.belowL2 hb hz1,h.2.trans (hb.mono hb02)⟩) (fun _ _ _ _ h _=>h) ⟨HN2.out,HB2.out⟩
  (fun pre x _ W1=>Blk W1 (w.heap.size+1) 3 #[.int .i64 (acJ (pre++[x]))]/\Below w.heap.size w W1)
  (fun pre x _ W1 o h hz=>⟨h.1.put2 o (by omega),h.2.trans (q8 _ _ _ _ (by omega) (by omega))⟩) ?assign ?body ?done ?stop
 case assign=>
  rintro l pre x W3 K ⟨hI,hIb⟩ hz hK;have c0:=hI.cell 0;have f0:=hI.frozen 0;have H2:=hI.set_ 0 (.int .i64 x.1);simp only [List.setIfInBounds_toArray,List.set_cons_zero] at H2;have HI:=za hI;have HIb:=za hIb;have H2:=za H2;have HK:=za hK;clear hI hIb hK
  gi_wp2
  exact HK.out _ _ ((Mid.refl _ _ _).setCell (p:=⟨w.heap.size+1,0,none⟩) (by show w.heap.size<=w.heap.size+1;omega) (.inl hz1) _) ⟨by rw [aeh];exact H2.out,HIb.out.setCell (p:=⟨w.heap.size+1,0,none⟩) (by show w.heap.size<=w.heap.size+1;omega) _⟩
 case body=>
  rintro l pre x a1 W3 ⟨hI,hIb⟩ hWs;have HI:=za hI;have HIb:=za hIb;clear hI hIb
  gi_wp2
  exact ⟨Mid.refl _ _ _,HI.out,HIb.out⟩
 case done=>
  rintro D xs W3 hD rfl ⟨hI,hIb⟩ hK;rw [aga] at hI;obtain ⟨sv,hsz⟩:∃ sv,YQ s=sv:=⟨_,rfl⟩;have Hsz:=za hsz;rw [hsz] at hI;clear hsz;have c0:=hI.cell 0;have f0:=hI.frozen 0;have HI2:=hI.set_ 0 (.int .i64 sv);simp only [List.setIfInBounds_toArray,List.set_cons_zero] at HI2;have HI2:=za HI2;have HIb:=za (hIb.setCell (p:=⟨w.heap.size+1,0,none⟩) (by show w.heap.size<=w.heap.size+1;omega) (.int .i64 sv));have HK:=za (show (W3.setCell ⟨w.heap.size+1,0,none⟩ (.int .i64 sv)).heap[D]? = some (.deferred (some [])) from (Below.heap_setCell W3 ⟨w.heap.size+1,0,none⟩ _ D (by show D≠w.heap.size+1;omega)).trans hK);clear hI hIb hK
  gi_wp2
  refine ⟨by simp,.inl ⟨_,_,rfl,run_takeDeferred HK.out,?_⟩⟩;have hDl:D<(W3.setCell ⟨w.heap.size+1,0,none⟩ (.int .i64 sv)).heap.size:=(Array.getElem?_eq_some_iff.1 HK.out).1;have hpb:=q8 (W3.setCell ⟨w.heap.size+1,0,none⟩ (.int .i64 sv)) D (.deferred none) w2.heap.size (by omega) hD;have k0:=(HI2.out.belowL2 hpb hz1).cell 0;refine ⟨.int .i64 sv,by simp [results,Tryz.results79,go_sem,k0],by rw [Hsz.out],HIb.out.trans (hpb.mono hb02)⟩
 case stop=>
  rintro D c pre W3 _ _ h _;exact h.elim
end
section
open Go.RowKit
theorem zA (i:Int) (nm:ByteArray) (k:Int) (nl u:Bool) (x:Int) (s:ByteArray) (w:World) :
  Calls Tryz.prog 135 #[.agg #[.int .i64 i,.string nm,.int .i64 k,.bool nl,.bool u,.int .i64 x,.string s]] w fun e w'=>e=.returned (.agg #[.int .i64 i,.string nm,.int .i64 (if k=2 then 3 else k),.bool nl,.bool u,.int .i64 x,.string s])/\Below w.heap.size w w':=by
 obtain ⟨W,hW1⟩:∃ W,(w.alloc (.cells #[.int .i64 i,.string nm,.int .i64 k,.bool nl,.bool u,.int .i64 x,.string s] 45)).alloc (.cells #[.int .i64 0,.string ⟨#[]⟩,.int .i64 0,.bool false,.bool false,.int .i64 0,.string ⟨#[]⟩] 45)=W:=⟨_,rfl⟩;have HB:=za (show Below w.heap.size w W by rw [<-hW1];exact bal (bal (Below.refl _ _) _) _);have BS:=za (show Blk W w.heap.size 45 #[.int .i64 i,.string nm,.int .i64 k,.bool nl,.bool u,.int .i64 x,.string s] by rw [<-hW1];exact (Blk.new w _ _).alloc _);have BT:=za (show Blk W (w.heap.size+1) 45 #[.int .i64 0,.string ⟨#[]⟩,.int .i64 0,.bool false,.bool false,.int .i64 0,.string ⟨#[]⟩] by rw [<-hW1];exact Blk.new' _ _ _ _ (by simp));have hlow:w.heap.size<=w.heap.size+1:=by omega
 by_cases hk:k=2
 ·subst hk;rw [if_pos rfl];have c2:=BS.out.cell 2;have f2:=BS.out.frozen 2;have BS2:=za (BS.out.set_ 2 (.int .i64 3));simp only [List.setIfInBounds_toArray,List.set_cons_succ,List.set_cons_zero] at BS2;have BT2:=za (BT.out.far (p:=⟨w.heap.size,2,none⟩) (by show w.heap.size+1≠w.heap.size;omega) (.int .i64 3));have HB2:=za (HB.out.setCell (p:=⟨w.heap.size,2,none⟩) (Nat.le_refl _) (.int .i64 3));have b0:=BS2.out.cell 0;have b1:=BS2.out.cell 1;have b2:=BS2.out.cell 2;have b3:=BS2.out.cell 3;have b4:=BS2.out.cell 4;have b5:=BS2.out.cell 5;have b6:=BS2.out.cell 6;have t0:=BT2.out.cell 0;have t1:=BT2.out.cell 1;have t2:=BT2.out.cell 2;have t3:=BT2.out.cell 3;have t4:=BT2.out.cell 4;have t5:=BT2.out.cell 5;have t6:=BT2.out.cell 6;have g0:=BT2.out.frozen 0;have g1:=BT2.out.frozen 1;have g2:=BT2.out.frozen 2;have g3:=BT2.out.frozen 3;have g4:=BT2.out.frozen 4;have g5:=BT2.out.frozen 5;have g6:=BT2.out.frozen 6;go_enter Tryz.func135,Tryz.ntmps135;go_wp2;try rw [hW1]
  clear b0 b1 b2 b3 b4 b5 b6 t0 t1 t2 t3 t4 t5 t6 g0 g1 g2 g3 g4 g5 g6;have BTF:=((((((BT2.out.set_ 0 (.int .i64 i)).set_ 1 (.string nm)).set_ 2 (.int .i64 3)).set_ 3 (.bool nl)).set_ 4 (.bool u)).set_ 5 (.int .i64 x)).set_ 6 (.string s);simp only [List.setIfInBounds_toArray,List.set_cons_succ,List.set_cons_zero] at BTF;have HBF:=za (((((((HB2.out.setCell (p:=⟨w.heap.size+1,0,none⟩) hlow (.int .i64 i)).setCell (p:=⟨w.heap.size+1,1,none⟩) hlow (.string nm)).setCell (p:=⟨w.heap.size+1,2,none⟩) hlow (.int .i64 3)).setCell (p:=⟨w.heap.size+1,3,none⟩) hlow (.bool nl)).setCell (p:=⟨w.heap.size+1,4,none⟩) hlow (.bool u)).setCell (p:=⟨w.heap.size+1,5,none⟩) hlow (.int .i64 x)).setCell (p:=⟨w.heap.size+1,6,none⟩) hlow (.string s));have r0:=BTF.cell 0;have r1:=BTF.cell 1;have r2:=BTF.cell 2;have r3:=BTF.cell 3;have r4:=BTF.cell 4;have r5:=BTF.cell 5;have r6:=BTF.cell 6;refine bodyPost_ret (v:=.agg #[.int .i64 i,.string nm,.int .i64 3,.bool nl,.bool u,.int .i64 x,.string s]) (by simp [results,Tryz.results135,go_sem,r0,r1,r2,r3,r4,r5,r6]) rfl ?_;exact ⟨rfl,HBF.out⟩
 rw [if_neg hk];have e1:(k==2)=false:=by simpa using hk
 have BS2:=BS;have BT2:=BT;have HB2:=HB;clear hk;have b0:=BS2.out.cell 0;have b1:=BS2.out.cell 1;have b2:=BS2.out.cell 2;have b3:=BS2.out.cell 3;have b4:=BS2.out.cell 4;have b5:=BS2.out.cell 5;have b6:=BS2.out.cell 6;have t0:=BT2.out.cell 0;have t1:=BT2.out.cell 1;have t2:=BT2.out.cell 2;have t3:=BT2.out.cell 3;have t4:=BT2.out.cell 4;have t5:=BT2.out.cell 5;have t6:=BT2.out.cell 6;have g0:=BT2.out.frozen 0;have g1:=BT2.out.frozen 1;have g2:=BT2.out.frozen 2;have g3:=BT2.out.frozen 3;have g4:=BT2.out.frozen 4;have g5:=BT2.out.frozen 5;have g6:=BT2.out.frozen 6;go_enter Tryz.func135,Tryz.ntmps135;go_wp2;try rw [hW1]
 clear b0 b1 b2 b3 b4 b5 b6 t0 t1 t2 t3 t4 t5 t6 g0 g1 g2 g3 g4 g5 g6;have BTF:=((((((BT2.out.set_ 0 (.int .i64 i)).set_ 1 (.string nm)).set_ 2 (.int .i64 k)).set_ 3 (.bool nl)).set_ 4 (.bool u)).set_ 5 (.int .i64 x)).set_ 6 (.string s);simp only [List.setIfInBounds_toArray,List.set_cons_succ,List.set_cons_zero] at BTF;have HBF:=za (((((((HB2.out.setCell (p:=⟨w.heap.size+1,0,none⟩) hlow (.int .i64 i)).setCell (p:=⟨w.heap.size+1,1,none⟩) hlow (.string nm)).setCell (p:=⟨w.heap.size+1,2,none⟩) hlow (.int .i64 k)).setCell (p:=⟨w.heap.size+1,3,none⟩) hlow (.bool nl)).setCell (p:=⟨w.heap.size+1,4,none⟩) hlow (.bool u)).setCell (p:=⟨w.heap.size+1,5,none⟩) hlow (.int .i64 x)).setCell (p:=⟨w.heap.size+1,6,none⟩) hlow (.string s));have r0:=BTF.cell 0;have r1:=BTF.cell 1;have r2:=BTF.cell 2;have r3:=BTF.cell 3;have r4:=BTF.cell 4;have r5:=BTF.cell 5;have r6:=BTF.cell 6;refine bodyPost_ret (v:=.agg #[.int .i64 i,.string nm,.int .i64 k,.bool nl,.bool u,.int .i64 x,.string s]) (by simp [results,Tryz.results135,go_sem,r0,r1,r2,r3,r4,r5,r6]) rfl ?_;exact ⟨rfl,HBF.out⟩
theorem aiC (i:Int) (nm:ByteArray) (k:Int) (nl u:Bool) (x:Int) (s:ByteArray):asC (i,nm,k,nl,u,x,s)=(i,nm,if k=2 then 3 else k,nl,u,x,s):=rfl
def aaR (a b:Co) (nar:Bool):Bool:=decide (a=b) && !nar
theorem yo {a b:Co} {nar:Bool} (h:¬a=b):aaR a b nar=false:=by unfold aaR;rw [decide_eq_false h];rfl
theorem JE {a b:Co} {nar:Bool} (h:a=b):aaR a b nar = !nar:=by unfold aaR;rw [decide_eq_true h];rfl
theorem UZ {a b:ByteArray} (h:¬a=b):¬a.toList=b.toList:=fun e=>h (by
 rw [Lib.toList_data,Lib.toList_data] at e;exact ByteArray.ext (Array.ext' e))
theorem agW (c d:Co) (nar:Bool) (h:(decide (c.2.2.1=3)&&decide (d.2.2.1=2))=nar):Xg c d=aaR (asC c) (asC d) nar:=by unfold Xg aaR;rw [h]
theorem aaQ (i:Int) (nm:ByteArray) (k:Int) (nl u:Bool) (x:Int) (s:ByteArray) (i':Int) (nm':ByteArray) (k':Int) (nl' u':Bool) (x':Int) (s':ByteArray) (w:World) :
  Calls Tryz.prog 134 #[.agg #[.int .i64 i,.string nm,.int .i64 k,.bool nl,.bool u,.int .i64 x,.string s],.agg #[.int .i64 i',.string nm',.int .i64 k',.bool nl',.bool u',.int .i64 x',.string s']] w fun e w'=>e=.returned (.bool (Xg (i,nm,k,nl,u,x,s) (i',nm',k',nl',u',x',s')))/\Below w.heap.size w w':=by
 obtain ⟨W,hW1⟩:∃ W,(w.alloc (.cells #[.int .i64 i,.string nm,.int .i64 k,.bool nl,.bool u,.int .i64 x,.string s] 45)).alloc (.cells #[.int .i64 i',.string nm',.int .i64 k',.bool nl',.bool u',.int .i64 x',.string s'] 45)=W:=⟨_,rfl⟩;have HB:=za (show Below w.heap.size w W by rw [<-hW1];exact bal (bal (Below.refl _ _) _) _);have BS:=za (show Blk W w.heap.size 45 #[.int .i64 i,.string nm,.int .i64 k,.bool nl,.bool u,.int .i64 x,.string s] by rw [<-hW1];exact (Blk.new w _ _).alloc _);have BT:=za (show Blk W (w.heap.size+1) 45 #[.int .i64 i',.string nm',.int .i64 k',.bool nl',.bool u',.int .i64 x',.string s'] by rw [<-hW1];exact Blk.new' _ _ _ _ (by simp));have a0:=za (show ak1 W ⟨w.heap.size,0,none⟩ (.int .i64 i) from fun w' h=>(BS.out.on h).cell 0);have a1:=za (show ak1 W ⟨w.heap.size,1,none⟩ (.string nm) from fun w' h=>(BS.out.on h).cell 1);have a2:=za (show ak1 W ⟨w.heap.size,2,none⟩ (.int .i64 k) from fun w' h=>(BS.out.on h).cell 2);have a3:=za (show ak1 W ⟨w.heap.size,3,none⟩ (.bool nl) from fun w' h=>(BS.out.on h).cell 3);have a4:=za (show ak1 W ⟨w.heap.size,4,none⟩ (.bool u) from fun w' h=>(BS.out.on h).cell 4);have a5:=za (show ak1 W ⟨w.heap.size,5,none⟩ (.int .i64 x) from fun w' h=>(BS.out.on h).cell 5);have a6:=za (show ak1 W ⟨w.heap.size,6,none⟩ (.string s) from fun w' h=>(BS.out.on h).cell 6);have b0:=za (show ak1 W ⟨w.heap.size+1,0,none⟩ (.int .i64 i') from fun w' h=>(BT.out.on h).cell 0);have b1:=za (show ak1 W ⟨w.heap.size+1,1,none⟩ (.string nm') from fun w' h=>(BT.out.on h).cell 1);have b2:=za (show ak1 W ⟨w.heap.size+1,2,none⟩ (.int .i64 k') from fun w' h=>(BT.out.on h).cell 2);have b3:=za (show ak1 W ⟨w.heap.size+1,3,none⟩ (.bool nl') from fun w' h=>(BT.out.on h).cell 3);have b4:=za (show ak1 W ⟨w.heap.size+1,4,none⟩ (.bool u') from fun w' h=>(BT.out.on h).cell 4);have b5:=za (show ak1 W ⟨w.heap.size+1,5,none⟩ (.int .i64 x') from fun w' h=>(BT.out.on h).cell 5);have b6:=za (show ak1 W ⟨w.heap.size+1,6,none⟩ (.string s') from fun w' h=>(BT.out.on h).cell 6);have c2:=BS.out.cell 2;have d2:=BT.out.cell 2;clear BS BT;obtain ⟨K1,hK1⟩:∃ K1,(if k=2 then 3 else k)=K1:=⟨_,rfl⟩;obtain ⟨K2,hK2⟩:∃ K2,(if k'=2 then 3 else k')=K2:=⟨_,rfl⟩;have HSt:=za (fun nar h=>agW (i,nm,k,nl,u,x,s) (i',nm',k',nl',u',x',s') nar h);rw [aiC,aiC,hK1,hK2] at HSt;have HK1:=za hK1;have HK2:=za hK2;clear hK1 hK2;simp only at HSt;by_cases hk:k=3
 ·have e1:(k==3)=true:=by simpa using hk
  by_cases hk2:k'=2
  ·have e2:(k'==2)=true:=(by simpa using hk2);have HSt:=za (HSt.out true (by rw [hk,hk2];rfl));clear hk hk2;go_enter Tryz.func134,Tryz.ntmps134;by_cases h1:i=i'
   case neg=>
    have HN:=za (yo (a:=(i,nm,K1,nl,u,x,s)) (b:=(i',nm',K2,nl',u',x',s')) (nar:=true) (fun h=>h1 (Prod.mk.inj h).1));go_wp2;(try rw [hW1]);have hS:=ak2 W;refine hB W [0,2,tt 1,tt 3,4,5,6,7,8,9] ?_;refine hP7 hS a0.out a1.out a2.out a3.out a4.out a5.out a6.out ?_;refine hP7 hS b0.out b1.out b2.out b3.out b4.out b5.out b6.out ?_;refine hE fun K hK=>?_;go_simp;(with_reducible refine (zA _ _ _ _ _ _ _ _).mono ?_);rintro e w5 ⟨rfl,hb5⟩;have HS:=za (bon hS hb5);clear hb5;refine hG hK (by exact HS.out) fun hS=>?_;clear hK K;clear HS;rw [HK1.out];refine hE fun K hK=>?_;go_simp;(with_reducible refine (zA _ _ _ _ _ _ _ _).mono ?_);rintro e w5 ⟨rfl,hb5⟩;have HS:=za (bon hS hb5);clear hb5;refine hG hK (by exact HS.out) fun hS=>?_;clear hK K;clear HS;rw [HK2.out];(iterate 2 refine hP hS ?_);(iterate 2 refine hO hS ?_);(iterate 2 refine hP hS ?_);refine zc ?_;go_wp2;go_ret;exact ⟨by rw [HSt.out,HN.out];rfl,bon HB.out hS⟩
   subst h1;by_cases h2:nm=nm'
   case neg=>
    have HN:=za (yo (a:=(i,nm,K1,nl,u,x,s)) (b:=(i,nm',K2,nl',u',x',s')) (nar:=true) (fun h=>h2 (by simp only [Prod.mk.injEq] at h;exact h.2.1)));have h2:¬nm.toList=nm'.toList:=UZ h2;go_wp2;(try rw [hW1]);have hS:=ak2 W;refine hB W [0,2,tt 1,tt 3,4,5,6,7,8,9] ?_;refine hP7 hS a0.out a1.out a2.out a3.out a4.out a5.out a6.out ?_;refine hP7 hS b0.out b1.out b2.out b3.out b4.out b5.out b6.out ?_;refine hE fun K hK=>?_;go_simp;(with_reducible refine (zA _ _ _ _ _ _ _ _).mono ?_);rintro e w5 ⟨rfl,hb5⟩;have HS:=za (bon hS hb5);clear hb5;refine hG hK (by exact HS.out) fun hS=>?_;clear hK K;clear HS;rw [HK1.out];refine hE fun K hK=>?_;go_simp;(with_reducible refine (zA _ _ _ _ _ _ _ _).mono ?_);rintro e w5 ⟨rfl,hb5⟩;have HS:=za (bon hS hb5);clear hb5;refine hG hK (by exact HS.out) fun hS=>?_;clear hK K;clear HS;rw [HK2.out];(iterate 2 refine hP hS ?_);(iterate 2 refine hO hS ?_);(iterate 2 refine hP hS ?_);refine zc ?_;go_wp2;go_ret;exact ⟨by rw [HSt.out,HN.out];rfl,bon HB.out hS⟩
   subst h2;by_cases h3:K1=K2
   case neg=>
    have HN:=za (yo (a:=(i,nm,K1,nl,u,x,s)) (b:=(i,nm,K2,nl',u',x',s')) (nar:=true) (fun h=>h3 (by simp only [Prod.mk.injEq] at h;exact h.2.2.1)));go_wp2;(try rw [hW1]);have hS:=ak2 W;refine hB W [0,2,tt 1,tt 3,4,5,6,7,8,9] ?_;refine hP7 hS a0.out a1.out a2.out a3.out a4.out a5.out a6.out ?_;refine hP7 hS b0.out b1.out b2.out b3.out b4.out b5.out b6.out ?_;refine hE fun K hK=>?_;go_simp;(with_reducible refine (zA _ _ _ _ _ _ _ _).mono ?_);rintro e w5 ⟨rfl,hb5⟩;have HS:=za (bon hS hb5);clear hb5;refine hG hK (by exact HS.out) fun hS=>?_;clear hK K;clear HS;rw [HK1.out];refine hE fun K hK=>?_;go_simp;(with_reducible refine (zA _ _ _ _ _ _ _ _).mono ?_);rintro e w5 ⟨rfl,hb5⟩;have HS:=za (bon hS hb5);clear hb5;refine hG hK (by exact HS.out) fun hS=>?_;clear hK K;clear HS;rw [HK2.out];(iterate 2 refine hP hS ?_);(iterate 2 refine hO hS ?_);(iterate 2 refine hP hS ?_);refine zc ?_;go_wp2;go_ret;exact ⟨by rw [HSt.out,HN.out];rfl,bon HB.out hS⟩
   by_cases h4:nl=nl'
   case neg=>
    have HN:=za (yo (a:=(i,nm,K1,nl,u,x,s)) (b:=(i,nm,K2,nl',u',x',s')) (nar:=true) (fun h=>h4 (by simp only [Prod.mk.injEq] at h;exact h.2.2.2.1)));go_wp2;(try rw [hW1]);have hS:=ak2 W;refine hB W [0,2,tt 1,tt 3,4,5,6,7,8,9] ?_;refine hP7 hS a0.out a1.out a2.out a3.out a4.out a5.out a6.out ?_;refine hP7 hS b0.out b1.out b2.out b3.out b4.out b5.out b6.out ?_;refine hE fun K hK=>?_;go_simp;(with_reducible refine (zA _ _ _ _ _ _ _ _).mono ?_);rintro e w5 ⟨rfl,hb5⟩;have HS:=za (bon hS hb5);clear hb5;refine hG hK (by exact HS.out) fun hS=>?_;clear hK K;clear HS;rw [HK1.out];refine hE fun K hK=>?_;go_simp;(with_reducible refine (zA _ _ _ _ _ _ _ _).mono ?_);rintro e w5 ⟨rfl,hb5⟩;have HS:=za (bon hS hb5);clear hb5;refine hG hK (by exact HS.out) fun hS=>?_;clear hK K;clear HS;rw [HK2.out];(iterate 2 refine hP hS ?_);(iterate 2 refine hO hS ?_);(iterate 2 refine hP hS ?_);refine zc ?_;go_wp2;go_ret;exact ⟨by rw [HSt.out,HN.out];rfl,bon HB.out hS⟩
   subst h4;by_cases h5:u=u'
   case neg=>
    have HN:=za (yo (a:=(i,nm,K1,nl,u,x,s)) (b:=(i,nm,K2,nl,u',x',s')) (nar:=true) (fun h=>h5 (by simp only [Prod.mk.injEq] at h;exact h.2.2.2.2.1)));go_wp2;(try rw [hW1]);have hS:=ak2 W;refine hB W [0,2,tt 1,tt 3,4,5,6,7,8,9] ?_;refine hP7 hS a0.out a1.out a2.out a3.out a4.out a5.out a6.out ?_;refine hP7 hS b0.out b1.out b2.out b3.out b4.out b5.out b6.out ?_;refine hE fun K hK=>?_;go_simp;(with_reducible refine (zA _ _ _ _ _ _ _ _).mono ?_);rintro e w5 ⟨rfl,hb5⟩;have HS:=za (bon hS hb5);clear hb5;refine hG hK (by exact HS.out) fun hS=>?_;clear hK K;clear HS;rw [HK1.out];refine hE fun K hK=>?_;go_simp;(with_reducible refine (zA _ _ _ _ _ _ _ _).mono ?_);rintro e w5 ⟨rfl,hb5⟩;have HS:=za (bon hS hb5);clear hb5;refine hG hK (by exact HS.out) fun hS=>?_;clear hK K;clear HS;rw [HK2.out];(iterate 2 refine hP hS ?_);(iterate 2 refine hO hS ?_);(iterate 2 refine hP hS ?_);refine zc ?_;go_wp2;go_ret;exact ⟨by rw [HSt.out,HN.out];rfl,bon HB.out hS⟩
   subst h5;by_cases h6:x=x'
   case neg=>
    have HN:=za (yo (a:=(i,nm,K1,nl,u,x,s)) (b:=(i,nm,K2,nl,u,x',s')) (nar:=true) (fun h=>h6 (by simp only [Prod.mk.injEq] at h;exact h.2.2.2.2.2.1)));go_wp2;(try rw [hW1]);have hS:=ak2 W;refine hB W [0,2,tt 1,tt 3,4,5,6,7,8,9] ?_;refine hP7 hS a0.out a1.out a2.out a3.out a4.out a5.out a6.out ?_;refine hP7 hS b0.out b1.out b2.out b3.out b4.out b5.out b6.out ?_;refine hE fun K hK=>?_;go_simp;(with_reducible refine (zA _ _ _ _ _ _ _ _).mono ?_);rintro e w5 ⟨rfl,hb5⟩;have HS:=za (bon hS hb5);clear hb5;refine hG hK (by exact HS.out) fun hS=>?_;clear hK K;clear HS;rw [HK1.out];refine hE fun K hK=>?_;go_simp;(with_reducible refine (zA _ _ _ _ _ _ _ _).mono ?_);rintro e w5 ⟨rfl,hb5⟩;have HS:=za (bon hS hb5);clear hb5;refine hG hK (by exact HS.out) fun hS=>?_;clear hK K;clear HS;rw [HK2.out];(iterate 2 refine hP hS ?_);(iterate 2 refine hO hS ?_);(iterate 2 refine hP hS ?_);refine zc ?_;go_wp2;go_ret;exact ⟨by rw [HSt.out,HN.out];rfl,bon HB.out hS⟩
   subst h6;by_cases h7:s=s'
   case neg=>
    have HN:=za (yo (a:=(i,nm,K1,nl,u,x,s)) (b:=(i,nm,K2,nl,u,x,s')) (nar:=true) (fun h=>h7 (by simp only [Prod.mk.injEq] at h;exact h.2.2.2.2.2.2)));have h7:¬s.toList=s'.toList:=UZ h7;go_wp2;(try rw [hW1]);have hS:=ak2 W;refine hB W [0,2,tt 1,tt 3,4,5,6,7,8,9] ?_;refine hP7 hS a0.out a1.out a2.out a3.out a4.out a5.out a6.out ?_;refine hP7 hS b0.out b1.out b2.out b3.out b4.out b5.out b6.out ?_;refine hE fun K hK=>?_;go_simp;(with_reducible refine (zA _ _ _ _ _ _ _ _).mono ?_);rintro e w5 ⟨rfl,hb5⟩;have HS:=za (bon hS hb5);clear hb5;refine hG hK (by exact HS.out) fun hS=>?_;clear hK K;clear HS;rw [HK1.out];refine hE fun K hK=>?_;go_simp;(with_reducible refine (zA _ _ _ _ _ _ _ _).mono ?_);rintro e w5 ⟨rfl,hb5⟩;have HS:=za (bon hS hb5);clear hb5;refine hG hK (by exact HS.out) fun hS=>?_;clear hK K;clear HS;rw [HK2.out];(iterate 2 refine hP hS ?_);(iterate 2 refine hO hS ?_);(iterate 2 refine hP hS ?_);refine zc ?_;go_wp2;go_ret;exact ⟨by rw [HSt.out,HN.out];rfl,bon HB.out hS⟩
   subst h7;have HN:=za (JE (a:=(i,nm,K1,nl,u,x,s)) (b:=(i,nm,K2,nl,u,x,s)) (nar:=true) (by rw [h3]));go_wp2;(try rw [hW1]);have hS:=ak2 W;refine hB W [0,2,tt 1,tt 3,4,5,6,7,8,9] ?_;refine hP7 hS a0.out a1.out a2.out a3.out a4.out a5.out a6.out ?_;refine hP7 hS b0.out b1.out b2.out b3.out b4.out b5.out b6.out ?_;refine hE fun K hK=>?_;go_simp;(with_reducible refine (zA _ _ _ _ _ _ _ _).mono ?_);rintro e w5 ⟨rfl,hb5⟩;have HS:=za (bon hS hb5);clear hb5;refine hG hK (by exact HS.out) fun hS=>?_;clear hK K;clear HS;rw [HK1.out];refine hE fun K hK=>?_;go_simp;(with_reducible refine (zA _ _ _ _ _ _ _ _).mono ?_);rintro e w5 ⟨rfl,hb5⟩;have HS:=za (bon hS hb5);clear hb5;refine hG hK (by exact HS.out) fun hS=>?_;clear hK K;clear HS;rw [HK2.out];(iterate 6 refine hP hS ?_);refine zc ?_;go_wp2;go_ret;exact ⟨by rw [HSt.out,HN.out];rfl,bon HB.out hS⟩
  have e2:(k'==2)=false:=by simpa using hk2
  have HSt:=za (HSt.out false (by rw [decide_eq_false hk2,Bool.and_false]));clear hk hk2;go_enter Tryz.func134,Tryz.ntmps134;by_cases h1:i=i'
  case neg=>
   have HN:=za (yo (a:=(i,nm,K1,nl,u,x,s)) (b:=(i',nm',K2,nl',u',x',s')) (nar:=false) (fun h=>h1 (Prod.mk.inj h).1));go_wp2;(try rw [hW1]);have hS:=ak2 W;refine hB W [0,2,tt 1,tt 3,4,5,6,7,8,9] ?_;refine hP7 hS a0.out a1.out a2.out a3.out a4.out a5.out a6.out ?_;refine hP7 hS b0.out b1.out b2.out b3.out b4.out b5.out b6.out ?_;refine hE fun K hK=>?_;go_simp;(with_reducible refine (zA _ _ _ _ _ _ _ _).mono ?_);rintro e w5 ⟨rfl,hb5⟩;have HS:=za (bon hS hb5);clear hb5;refine hG hK (by exact HS.out) fun hS=>?_;clear hK K;clear HS;rw [HK1.out];refine hE fun K hK=>?_;go_simp;(with_reducible refine (zA _ _ _ _ _ _ _ _).mono ?_);rintro e w5 ⟨rfl,hb5⟩;have HS:=za (bon hS hb5);clear hb5;refine hG hK (by exact HS.out) fun hS=>?_;clear hK K;clear HS;rw [HK2.out];(iterate 2 refine hP hS ?_);(iterate 2 refine hO hS ?_);(iterate 2 refine hP hS ?_);refine zc ?_;go_wp2;go_ret;exact ⟨by rw [HSt.out,HN.out];rfl,bon HB.out hS⟩
  subst h1;by_cases h2:nm=nm'
  case neg=>
   have HN:=za (yo (a:=(i,nm,K1,nl,u,x,s)) (b:=(i,nm',K2,nl',u',x',s')) (nar:=false) (fun h=>h2 (by simp only [Prod.mk.injEq] at h;exact h.2.1)));have h2:¬nm.toList=nm'.toList:=UZ h2;go_wp2;(try rw [hW1]);have hS:=ak2 W;refine hB W [0,2,tt 1,tt 3,4,5,6,7,8,9] ?_;refine hP7 hS a0.out a1.out a2.out a3.out a4.out a5.out a6.out ?_;refine hP7 hS b0.out b1.out b2.out b3.out b4.out b5.out b6.out ?_;refine hE fun K hK=>?_;go_simp;(with_reducible refine (zA _ _ _ _ _ _ _ _).mono ?_);rintro e w5 ⟨rfl,hb5⟩;have HS:=za (bon hS hb5);clear hb5;refine hG hK (by exact HS.out) fun hS=>?_;clear hK K;clear HS;rw [HK1.out];refine hE fun K hK=>?_;go_simp;(with_reducible refine (zA _ _ _ _ _ _ _ _).mono ?_);rintro e w5 ⟨rfl,hb5⟩;have HS:=za (bon hS hb5);clear hb5;refine hG hK (by exact HS.out) fun hS=>?_;clear hK K;clear HS;rw [HK2.out];(iterate 2 refine hP hS ?_);(iterate 2 refine hO hS ?_);(iterate 2 refine hP hS ?_);refine zc ?_;go_wp2;go_ret;exact ⟨by rw [HSt.out,HN.out];rfl,bon HB.out hS⟩
  subst h2;by_cases h3:K1=K2
  case neg=>
   have HN:=za (yo (a:=(i,nm,K1,nl,u,x,s)) (b:=(i,nm,K2,nl',u',x',s')) (nar:=false) (fun h=>h3 (by simp only [Prod.mk.injEq] at h;exact h.2.2.1)));go_wp2;(try rw [hW1]);have hS:=ak2 W;refine hB W [0,2,tt 1,tt 3,4,5,6,7,8,9] ?_;refine hP7 hS a0.out a1.out a2.out a3.out a4.out a5.out a6.out ?_;refine hP7 hS b0.out b1.out b2.out b3.out b4.out b5.out b6.out ?_;refine hE fun K hK=>?_;go_simp;(with_reducible refine (zA _ _ _ _ _ _ _ _).mono ?_);rintro e w5 ⟨rfl,hb5⟩;have HS:=za (bon hS hb5);clear hb5;refine hG hK (by exact HS.out) fun hS=>?_;clear hK K;clear HS;rw [HK1.out];refine hE fun K hK=>?_;go_simp;(with_reducible refine (zA _ _ _ _ _ _ _ _).mono ?_);rintro e w5 ⟨rfl,hb5⟩;have HS:=za (bon hS hb5);clear hb5;refine hG hK (by exact HS.out) fun hS=>?_;clear hK K;clear HS;rw [HK2.out];(iterate 2 refine hP hS ?_);(iterate 2 refine hO hS ?_);(iterate 2 refine hP hS ?_);refine zc ?_;go_wp2;go_ret;exact ⟨by rw [HSt.out,HN.out];rfl,bon HB.out hS⟩
  by_cases h4:nl=nl'
  case neg=>
   have HN:=za (yo (a:=(i,nm,K1,nl,u,x,s)) (b:=(i,nm,K2,nl',u',x',s')) (nar:=false) (fun h=>h4 (by simp only [Prod.mk.injEq] at h;exact h.2.2.2.1)));go_wp2;(try rw [hW1]);have hS:=ak2 W;refine hB W [0,2,tt 1,tt 3,4,5,6,7,8,9] ?_;refine hP7 hS a0.out a1.out a2.out a3.out a4.out a5.out a6.out ?_;refine hP7 hS b0.out b1.out b2.out b3.out b4.out b5.out b6.out ?_;refine hE fun K hK=>?_;go_simp;(with_reducible refine (zA _ _ _ _ _ _ _ _).mono ?_);rintro e w5 ⟨rfl,hb5⟩;have HS:=za (bon hS hb5);clear hb5;refine hG hK (by exact HS.out) fun hS=>?_;clear hK K;clear HS;rw [HK1.out];refine hE fun K hK=>?_;go_simp;(with_reducible refine (zA _ _ _ _ _ _ _ _).mono ?_);rintro e w5 ⟨rfl,hb5⟩;have HS:=za (bon hS hb5);clear hb5;refine hG hK (by exact HS.out) fun hS=>?_;clear hK K;clear HS;rw [HK2.out];(iterate 2 refine hP hS ?_);(iterate 2 refine hO hS ?_);(iterate 2 refine hP hS ?_);refine zc ?_;go_wp2;go_ret;exact ⟨by rw [HSt.out,HN.out];rfl,bon HB.out hS⟩
  subst h4;by_cases h5:u=u'
  case neg=>
   have HN:=za (yo (a:=(i,nm,K1,nl,u,x,s)) (b:=(i,nm,K2,nl,u',x',s')) (nar:=false) (fun h=>h5 (by simp only [Prod.mk.injEq] at h;exact h.2.2.2.2.1)));go_wp2;(try rw [hW1]);have hS:=ak2 W;refine hB W [0,2,tt 1,tt 3,4,5,6,7,8,9] ?_;refine hP7 hS a0.out a1.out a2.out a3.out a4.out a5.out a6.out ?_;refine hP7 hS b0.out b1.out b2.out b3.out b4.out b5.out b6.out ?_;refine hE fun K hK=>?_;go_simp;(with_reducible refine (zA _ _ _ _ _ _ _ _).mono ?_);rintro e w5 ⟨rfl,hb5⟩;have HS:=za (bon hS hb5);clear hb5;refine hG hK (by exact HS.out) fun hS=>?_;clear hK K;clear HS;rw [HK1.out];refine hE fun K hK=>?_;go_simp;(with_reducible refine (zA _ _ _ _ _ _ _ _).mono ?_);rintro e w5 ⟨rfl,hb5⟩;have HS:=za (bon hS hb5);clear hb5;refine hG hK (by exact HS.out) fun hS=>?_;clear hK K;clear HS;rw [HK2.out];(iterate 2 refine hP hS ?_);(iterate 2 refine hO hS ?_);(iterate 2 refine hP hS ?_);refine zc ?_;go_wp2;go_ret;exact ⟨by rw [HSt.out,HN.out];rfl,bon HB.out hS⟩
  subst h5;by_cases h6:x=x'
  case neg=>
   have HN:=za (yo (a:=(i,nm,K1,nl,u,x,s)) (b:=(i,nm,K2,nl,u,x',s')) (nar:=false) (fun h=>h6 (by simp only [Prod.mk.injEq] at h;exact h.2.2.2.2.2.1)));go_wp2;(try rw [hW1]);have hS:=ak2 W;refine hB W [0,2,tt 1,tt 3,4,5,6,7,8,9] ?_;refine hP7 hS a0.out a1.out a2.out a3.out a4.out a5.out a6.out ?_;refine hP7 hS b0.out b1.out b2.out b3.out b4.out b5.out b6.out ?_;refine hE fun K hK=>?_;go_simp;(with_reducible refine (zA _ _ _ _ _ _ _ _).mono ?_);rintro e w5 ⟨rfl,hb5⟩;have HS:=za (bon hS hb5);clear hb5;refine hG hK (by exact HS.out) fun hS=>?_;clear hK K;clear HS;rw [HK1.out];refine hE fun K hK=>?_;go_simp;(with_reducible refine (zA _ _ _ _ _ _ _ _).mono ?_);rintro e w5 ⟨rfl,hb5⟩;have HS:=za (bon hS hb5);clear hb5;refine hG hK (by exact HS.out) fun hS=>?_;clear hK K;clear HS;rw [HK2.out];(iterate 2 refine hP hS ?_);(iterate 2 refine hO hS ?_);(iterate 2 refine hP hS ?_);refine zc ?_;go_wp2;go_ret;exact ⟨by rw [HSt.out,HN.out];rfl,bon HB.out hS⟩
  subst h6;by_cases h7:s=s'
  case neg=>
   have HN:=za (yo (a:=(i,nm,K1,nl,u,x,s)) (b:=(i,nm,K2,nl,u,x,s')) (nar:=false) (fun h=>h7 (by simp only [Prod.mk.injEq] at h;exact h.2.2.2.2.2.2)));have h7:¬s.toList=s'.toList:=UZ h7;go_wp2;(try rw [hW1]);have hS:=ak2 W;refine hB W [0,2,tt 1,tt 3,4,5,6,7,8,9] ?_;refine hP7 hS a0.out a1.out a2.out a3.out a4.out a5.out a6.out ?_;refine hP7 hS b0.out b1.out b2.out b3.out b4.out b5.out b6.out ?_;refine hE fun K hK=>?_;go_simp;(with_reducible refine (zA _ _ _ _ _ _ _ _).mono ?_);rintro e w5 ⟨rfl,hb5⟩;have HS:=za (bon hS hb5);clear hb5;refine hG hK (by exact HS.out) fun hS=>?_;clear hK K;clear HS;rw [HK1.out];refine hE fun K hK=>?_;go_simp;(with_reducible refine (zA _ _ _ _ _ _ _ _).mono ?_);rintro e w5 ⟨rfl,hb5⟩;have HS:=za (bon hS hb5);clear hb5;refine hG hK (by exact HS.out) fun hS=>?_;clear hK K;clear HS;rw [HK2.out];(iterate 2 refine hP hS ?_);(iterate 2 refine hO hS ?_);(iterate 2 refine hP hS ?_);refine zc ?_;go_wp2;go_ret;exact ⟨by rw [HSt.out,HN.out];rfl,bon HB.out hS⟩
  subst h7;have HN:=za (JE (a:=(i,nm,K1,nl,u,x,s)) (b:=(i,nm,K2,nl,u,x,s)) (nar:=false) (by rw [h3]));go_wp2;try rw [hW1]
  have hS:=ak2 W;refine hB W [0,2,tt 1,tt 3,4,5,6,7,8,9] ?_;refine hP7 hS a0.out a1.out a2.out a3.out a4.out a5.out a6.out ?_;refine hP7 hS b0.out b1.out b2.out b3.out b4.out b5.out b6.out ?_;refine hE fun K hK=>?_;go_simp;with_reducible refine (zA _ _ _ _ _ _ _ _).mono ?_
  rintro e w5 ⟨rfl,hb5⟩;have HS:=za (bon hS hb5);clear hb5;refine hG hK (by exact HS.out) fun hS=>?_;clear hK K;clear HS;rw [HK1.out];refine hE fun K hK=>?_;go_simp;with_reducible refine (zA _ _ _ _ _ _ _ _).mono ?_
  rintro e w5 ⟨rfl,hb5⟩;have HS:=za (bon hS hb5);clear hb5;refine hG hK (by exact HS.out) fun hS=>?_;clear hK K;clear HS;rw [HK2.out];iterate 6 refine hP hS ?_
  refine zc ?_;go_wp2;go_ret;exact ⟨by rw [HSt.out,HN.out];rfl,bon HB.out hS⟩
 have e1:(k==3)=false:=by simpa using hk
 have HSt:=za (HSt.out false (by rw [decide_eq_false hk];rfl));clear hk;go_enter Tryz.func134,Tryz.ntmps134;by_cases h1:i=i'
 case neg=>
  have HN:=za (yo (a:=(i,nm,K1,nl,u,x,s)) (b:=(i',nm',K2,nl',u',x',s')) (nar:=false) (fun h=>h1 (Prod.mk.inj h).1));go_wp2;try rw [hW1]
  have hS:=ak2 W;refine hB W [0,2,tt 1,tt 3,4,5,6,7,8,9] ?_;refine hP7 hS a0.out a1.out a2.out a3.out a4.out a5.out a6.out ?_;refine hP7 hS b0.out b1.out b2.out b3.out b4.out b5.out b6.out ?_;refine hE fun K hK=>?_;go_simp;with_reducible refine (zA _ _ _ _ _ _ _ _).mono ?_
  rintro e w5 ⟨rfl,hb5⟩;have HS:=za (bon hS hb5);clear hb5;refine hG hK (by exact HS.out) fun hS=>?_;clear hK K;clear HS;rw [HK1.out];refine hE fun K hK=>?_;go_simp;with_reducible refine (zA _ _ _ _ _ _ _ _).mono ?_
  rintro e w5 ⟨rfl,hb5⟩;have HS:=za (bon hS hb5);clear hb5;refine hG hK (by exact HS.out) fun hS=>?_;clear hK K;clear HS;rw [HK2.out];iterate 2 refine hP hS ?_
  iterate 2 refine hO hS ?_
  iterate 2 refine hP hS ?_
  refine zc ?_;go_wp2;go_ret;exact ⟨by rw [HSt.out,HN.out];rfl,bon HB.out hS⟩
 subst h1;by_cases h2:nm=nm'
 case neg=>
  have HN:=za (yo (a:=(i,nm,K1,nl,u,x,s)) (b:=(i,nm',K2,nl',u',x',s')) (nar:=false) (fun h=>h2 (by simp only [Prod.mk.injEq] at h;exact h.2.1)));have h2:¬nm.toList=nm'.toList:=UZ h2;go_wp2;try rw [hW1]
  have hS:=ak2 W;refine hB W [0,2,tt 1,tt 3,4,5,6,7,8,9] ?_;refine hP7 hS a0.out a1.out a2.out a3.out a4.out a5.out a6.out ?_;refine hP7 hS b0.out b1.out b2.out b3.out b4.out b5.out b6.out ?_;refine hE fun K hK=>?_;go_simp;with_reducible refine (zA _ _ _ _ _ _ _ _).mono ?_
  rintro e w5 ⟨rfl,hb5⟩;have HS:=za (bon hS hb5);clear hb5;refine hG hK (by exact HS.out) fun hS=>?_;clear hK K;clear HS;rw [HK1.out];refine hE fun K hK=>?_;go_simp;with_reducible refine (zA _ _ _ _ _ _ _ _).mono ?_
  rintro e w5 ⟨rfl,hb5⟩;have HS:=za (bon hS hb5);clear hb5;refine hG hK (by exact HS.out) fun hS=>?_;clear hK K;clear HS;rw [HK2.out];iterate 2 refine hP hS ?_
  iterate 2 refine hO hS ?_
  iterate 2 refine hP hS ?_
  refine zc ?_;go_wp2;go_ret;exact ⟨by rw [HSt.out,HN.out];rfl,bon HB.out hS⟩
 subst h2;by_cases h3:K1=K2
 case neg=>
  have HN:=za (yo (a:=(i,nm,K1,nl,u,x,s)) (b:=(i,nm,K2,nl',u',x',s')) (nar:=false) (fun h=>h3 (by simp only [Prod.mk.injEq] at h;exact h.2.2.1)));go_wp2;try rw [hW1]
  have hS:=ak2 W;refine hB W [0,2,tt 1,tt 3,4,5,6,7,8,9] ?_;refine hP7 hS a0.out a1.out a2.out a3.out a4.out a5.out a6.out ?_;refine hP7 hS b0.out b1.out b2.out b3.out b4.out b5.out b6.out ?_;refine hE fun K hK=>?_;go_simp;with_reducible refine (zA _ _ _ _ _ _ _ _).mono ?_
  rintro e w5 ⟨rfl,hb5⟩;have HS:=za (bon hS hb5);clear hb5;refine hG hK (by exact HS.out) fun hS=>?_;clear hK K;clear HS;rw [HK1.out];refine hE fun K hK=>?_;go_simp;with_reducible refine (zA _ _ _ _ _ _ _ _).mono ?_
  rintro e w5 ⟨rfl,hb5⟩;have HS:=za (bon hS hb5);clear hb5;refine hG hK (by exact HS.out) fun hS=>?_;clear hK K;clear HS;rw [HK2.out];iterate 2 refine hP hS ?_
  iterate 2 refine hO hS ?_
  iterate 2 refine hP hS ?_
  refine zc ?_;go_wp2;go_ret;exact ⟨by rw [HSt.out,HN.out];rfl,bon HB.out hS⟩
 by_cases h4:nl=nl'
 case neg=>
  have HN:=za (yo (a:=(i,nm,K1,nl,u,x,s)) (b:=(i,nm,K2,nl',u',x',s')) (nar:=false) (fun h=>h4 (by simp only [Prod.mk.injEq] at h;exact h.2.2.2.1)));go_wp2;try rw [hW1]
  have hS:=ak2 W;refine hB W [0,2,tt 1,tt 3,4,5,6,7,8,9] ?_;refine hP7 hS a0.out a1.out a2.out a3.out a4.out a5.out a6.out ?_;refine hP7 hS b0.out b1.out b2.out b3.out b4.out b5.out b6.out ?_;refine hE fun K hK=>?_;go_simp;with_reducible refine (zA _ _ _ _ _ _ _ _).mono ?_
  rintro e w5 ⟨rfl,hb5⟩;have HS:=za (bon hS hb5);clear hb5;refine hG hK (by exact HS.out) fun hS=>?_;clear hK K;clear HS;rw [HK1.out];refine hE fun K hK=>?_;go_simp;with_reducible refine (zA _ _ _ _ _ _ _ _).mono ?_
  rintro e w5 ⟨rfl,hb5⟩;have HS:=za (bon hS hb5);clear hb5;refine hG hK (by exact HS.out) fun hS=>?_;clear hK K;clear HS;rw [HK2.out];iterate 2 refine hP hS ?_
  iterate 2 refine hO hS ?_
  iterate 2 refine hP hS ?_
  refine zc ?_;go_wp2;go_ret;exact ⟨by rw [HSt.out,HN.out];rfl,bon HB.out hS⟩
 subst h4;by_cases h5:u=u'
 case neg=>
  have HN:=za (yo (a:=(i,nm,K1,nl,u,x,s)) (b:=(i,nm,K2,nl,u',x',s')) (nar:=false) (fun h=>h5 (by simp only [Prod.mk.injEq] at h;exact h.2.2.2.2.1)));go_wp2;try rw [hW1]
  have hS:=ak2 W;refine hB W [0,2,tt 1,tt 3,4,5,6,7,8,9] ?_;refine hP7 hS a0.out a1.out a2.out a3.out a4.out a5.out a6.out ?_;refine hP7 hS b0.out b1.out b2.out b3.out b4.out b5.out b6.out ?_;refine hE fun K hK=>?_;go_simp;with_reducible refine (zA _ _ _ _ _ _ _ _).mono ?_
  rintro e w5 ⟨rfl,hb5⟩;have HS:=za (bon hS hb5);clear hb5;refine hG hK (by exact HS.out) fun hS=>?_;clear hK K;clear HS;rw [HK1.out];refine hE fun K hK=>?_;go_simp;with_reducible refine (zA _ _ _ _ _ _ _ _).mono ?_
  rintro e w5 ⟨rfl,hb5⟩;have HS:=za (bon hS hb5);clear hb5;refine hG hK (by exact HS.out) fun hS=>?_;clear hK K;clear HS;rw [HK2.out];iterate 2 refine hP hS ?_
  iterate 2 refine hO hS ?_
  iterate 2 refine hP hS ?_
  refine zc ?_;go_wp2;go_ret;exact ⟨by rw [HSt.out,HN.out];rfl,bon HB.out hS⟩
 subst h5;by_cases h6:x=x'
 case neg=>
  have HN:=za (yo (a:=(i,nm,K1,nl,u,x,s)) (b:=(i,nm,K2,nl,u,x',s')) (nar:=false) (fun h=>h6 (by simp only [Prod.mk.injEq] at h;exact h.2.2.2.2.2.1)));go_wp2;try rw [hW1]
  have hS:=ak2 W;refine hB W [0,2,tt 1,tt 3,4,5,6,7,8,9] ?_;refine hP7 hS a0.out a1.out a2.out a3.out a4.out a5.out a6.out ?_;refine hP7 hS b0.out b1.out b2.out b3.out b4.out b5.out b6.out ?_;refine hE fun K hK=>?_;go_simp;with_reducible refine (zA _ _ _ _ _ _ _ _).mono ?_
  rintro e w5 ⟨rfl,hb5⟩;have HS:=za (bon hS hb5);clear hb5;refine hG hK (by exact HS.out) fun hS=>?_;clear hK K;clear HS;rw [HK1.out];refine hE fun K hK=>?_;go_simp;with_reducible refine (zA _ _ _ _ _ _ _ _).mono ?_
  rintro e w5 ⟨rfl,hb5⟩;have HS:=za (bon hS hb5);clear hb5;refine hG hK (by exact HS.out) fun hS=>?_;clear hK K;clear HS;rw [HK2.out];iterate 2 refine hP hS ?_
  iterate 2 refine hO hS ?_
  iterate 2 refine hP hS ?_
  refine zc ?_;go_wp2;go_ret;exact ⟨by rw [HSt.out,HN.out];rfl,bon HB.out hS⟩
 subst h6;by_cases h7:s=s'
 case neg=>
  have HN:=za (yo (a:=(i,nm,K1,nl,u,x,s)) (b:=(i,nm,K2,nl,u,x,s')) (nar:=false) (fun h=>h7 (by simp only [Prod.mk.injEq] at h;exact h.2.2.2.2.2.2)));have h7:¬s.toList=s'.toList:=UZ h7;go_wp2;try rw [hW1]
  have hS:=ak2 W;refine hB W [0,2,tt 1,tt 3,4,5,6,7,8,9] ?_;refine hP7 hS a0.out a1.out a2.out a3.out a4.out a5.out a6.out ?_;refine hP7 hS b0.out b1.out b2.out b3.out b4.out b5.out b6.out ?_;refine hE fun K hK=>?_;go_simp;with_reducible refine (zA _ _ _ _ _ _ _ _).mono ?_
  rintro e w5 ⟨rfl,hb5⟩;have HS:=za (bon hS hb5);clear hb5;refine hG hK (by exact HS.out) fun hS=>?_;clear hK K;clear HS;rw [HK1.out];refine hE fun K hK=>?_;go_simp;with_reducible refine (zA _ _ _ _ _ _ _ _).mono ?_
  rintro e w5 ⟨rfl,hb5⟩;have HS:=za (bon hS hb5);clear hb5;refine hG hK (by exact HS.out) fun hS=>?_;clear hK K;clear HS;rw [HK2.out];iterate 2 refine hP hS ?_
  iterate 2 refine hO hS ?_
  iterate 2 refine hP hS ?_
  refine zc ?_;go_wp2;go_ret;exact ⟨by rw [HSt.out,HN.out];rfl,bon HB.out hS⟩
 subst h7;have HN:=za (JE (a:=(i,nm,K1,nl,u,x,s)) (b:=(i,nm,K2,nl,u,x,s)) (nar:=false) (by rw [h3]));go_wp2;try rw [hW1]
 have hS:=ak2 W;refine hB W [0,2,tt 1,tt 3,4,5,6,7,8,9] ?_;refine hP7 hS a0.out a1.out a2.out a3.out a4.out a5.out a6.out ?_;refine hP7 hS b0.out b1.out b2.out b3.out b4.out b5.out b6.out ?_;refine hE fun K hK=>?_;go_simp;with_reducible refine (zA _ _ _ _ _ _ _ _).mono ?_
 rintro e w5 ⟨rfl,hb5⟩;have HS:=za (bon hS hb5);clear hb5;refine hG hK (by exact HS.out) fun hS=>?_;clear hK K;clear HS;rw [HK1.out];refine hE fun K hK=>?_;go_simp;with_reducible refine (zA _ _ _ _ _ _ _ _).mono ?_
 rintro e w5 ⟨rfl,hb5⟩;have HS:=za (bon hS hb5);clear hb5;refine hG hK (by exact HS.out) fun hS=>?_;clear hK K;clear HS;rw [HK2.out];iterate 6 refine hP hS ?_
 refine zc ?_;go_wp2;go_ret;exact ⟨by rw [HSt.out,HN.out];rfl,bon HB.out hS⟩
end
section
open Go.RowKit
theorem aei {s:Sc} {i k:Nat} {co:Co} (h:s.2[i]? = some (k:Int)) (hc:s.1[k]? = some co):(Ym s).take (i+1)=(Ym s).take i++[co.1]:=by
 rw [List.take_add_one];unfold Ym;rw [List.getElem?_map,h];simp [hc]
theorem acK (CA:Option Addr) (cn cc:Nat) (KA:Option Addr) (kn kc:Nat) (s:Sc) (w:World) (h:ScAt w CA cn KA kn s) (hcn:cn<=1000000) (hkn:kn<=1000000) (hks:∀ k∈s.2,0<=k/\k<(s.1.length:Int)) :
  Calls Tryz.prog 139 #[.agg #[.slice CA cn cc,.slice KA kn kc]] w fun e w'=>∃ A c,e=.returned (.slice A kn c)/\Reads w' w'.heap.size 1 A kn (ins (Ym s))/\Below w.heap.size w w':=by
 obtain ⟨i0,hi0,hz0,hz1,hz2⟩:=info_parts X7;have Hks:=za hks;have Hcl:=za (zU h.cols);have Hkl:=za (ZU h.keys);obtain ⟨W,hW1⟩:∃ W,w.alloc (.cells #[.slice CA cn cc,.slice KA kn kc] 48)=W:=⟨_,rfl⟩;have HB0:=za (show Below w.heap.size w W by rw [<-hW1];exact bal (Below.refl _ _) _);have H:=za (show ScAt W CA cn KA kn s by rw [<-hW1];exact h.al _);have BS:=za (show Blk W w.heap.size 48 #[.slice CA cn cc,.slice KA kn kc] by rw [<-hW1];exact Blk.new w _ _);have s1:=BS.out.cell 1;clear h hks;go_enter Tryz.func139,Tryz.ntmps139;go_wp2;try rw [hW1]
 clear hW1 s1;go_loopw [2,8] (fun sv kv wr=>∃ (i:Nat) (A4:Option Addr) (c4:Nat),i<=kn/\sv=.slice A4 i c4/\kv=.int .i64 (i:Int)/\Hid (wr.ownsRow W.heap.size 3 1 (.slice A4 i c4) i (ins ((Ym s).take i)))/\Hid (Below W.heap.size W wr)) (fun _ kv _=>kn-(intOf kv).toNat)
 case atStart=>exact ⟨0,none,0,Nat.zero_le _,rfl,rfl,za (by rw [List.take_zero];exact World.ownsRow_nil _ _ _ _),za (Below.refl _ _)⟩
 case round=>
  obtain ⟨i,A4,c4,hin,rfl,rfl,HO,HB⟩:=hrel;by_cases hlt:i<kn
  ·have d1:decide ((i:Int)<(kn:Int))=true:=(by simp;omega);have hii:(i:Int)<(kn:Int):=(by omega);obtain ⟨ae,x,rfl,hbk,hx,e0⟩:=X8 (H.out.on HB.out).keys hlt;obtain ⟨hx0,hx1⟩:=Hks.out x (List.mem_of_getElem? hx);obtain ⟨xk,rfl⟩:∃ xk:Nat,x=(xk:Int):=⟨x.toNat,by omega⟩;have hxk:xk<cn:=(by have:=Hcl.out;omega);have hxi:(xk:Int)<(cn:Int):=(by omega);obtain ⟨ad,co,rfl,hbk2,hco,hat⟩:=yP (H.out.on HB.out).cols hxk;have Hsu:=za (aei hx hco);have e1:=hat.c0;have s0:=(BS.out.on HB.out).cell 0;have hsa:i+1<=maxLen:=(by simp only [maxLen];omega);have hsb:(i+1)*8<=70368744177664:=(by omega);generalize co.1=id at *;have HBa:=za (bal HB.out (.cells #[.int .i64 id] 3));have HOa:=za (HO.out.alloc (.cells #[.int .i64 id] 3));clear hx hco hat hbk hbk2 hx0 hx1
   go_wp2_with (at_builtin
                refine zb _ rfl (.tmp 12) (.tmp 19) 28 rfl W.heap.size 3 i0 (.int .i64 0) 1 8 Tryz.underlying28 hi0 hz0 hz1 hz2 rfl (by decide) A4 i c4 _ rfl HOa.out (some ⟨_,0,none⟩) 1 1 (ins [id]) rfl (by exact qB _ _ _ _ _ _ rfl rfl rfl) (afa _) hsa hsb HBa.out.size ?_;intro A8 c8 w8 r1 r2 r3 r4 r5;rw [show ins ((Ym s).take i)++ins [id]=ins ((Ym s).take (i+1)) by rw [Hsu.out];simp [ins]] at r1;have R1:=za r1;have R2:=za (HBa.out.trans r2);clear r1 r2 r3 r4 r5)
   go_roundw;case rel=>exact ⟨i+1,A8,c8,by omega,rfl,by go_num,R1,R2⟩
   case measure=>simp [intOf];omega
  have d1:decide ((i:Int)<(kn:Int))=false:=by simp;omega
  obtain rfl:i=kn:=by omega
  have HI:=za (show Reads wr wr.heap.size 1 A4 i (ins (Ym s)) by
   have:=ze HO.out;rwa [List.take_of_length_le (by unfold Ym;rw [List.length_map,Hkl.out];exact Nat.le_refl _)] at this)
  go_wp2;go_ret;exact ⟨A4,c4,rfl,HI.out,bon HB0.out HB.out⟩
end
section
section
variable {P:Program} {md:Region.Mode} {ops:Array Oper} {Q:Exit->Act->World->Prop} {S:World->Prop} {F:Fence} {n:Nat}
def WideF (F:Fence):Prop:=F=Fence.wide\/∃ l,F=Fence.wide.inRound l
theorem WideF.wide:WideF Fence.wide:=.inl rfl
theorem WideF.round (l:Nat):WideF (Fence.wide.inRound l):=.inr ⟨l,rfl⟩
theorem WideF.sem (hF:WideF F) {o:Oper} (hd:∀ c,o.op≠.defer c) (ρ:Operand->Value):Oper.semAt F.round ρ o=execOp ρ o:=by
 rcases hF with rfl | ⟨l,rfl⟩
 ·rfl
 exact Oper.semAt_some l ρ o hd
theorem WideF.fn (hF:WideF F) (f:FuncId):F.fn f:=by rcases hF with rfl | ⟨l,rfl⟩<;>trivial
theorem WideF.depth (hF:WideF F):F.depth.isSome=true->1<=n:=by rcases hF with rfl | ⟨l,rfl⟩<;>(intro h;simp [Fence.wide] at h)
theorem WideF.calls (hF:WideF F) {f:FuncId} {args:Array Value} {w:World} {R:Ending->World->Prop} (h:Calls P f args w R):CallsIn F n P f args w R:=by
 rcases hF with rfl | ⟨l,rfl⟩
 ·exact callsIn_wide.2 h
 exact CallsIn.inRound l (callsIn_wide.2 h)
theorem abB {row:String} {args:Array Value} {w:World} {R:Value->World->Prop} (hF:WideF F) (h:Rows P row args w R):RowsIn F n P row args w R:=by
 rcases hF with rfl | ⟨l,rfl⟩<;>exact fun c cs _=>let ⟨v,w',r,s⟩:=h c cs;⟨v,w',r,stepsIn_wide.2 s⟩
theorem Oper.wpIn_of_wp (hF:WideF F) {o:Oper} {a:Act} {w:World} {K K':Act->World->Prop} (hd:∀ c,o.op≠.defer c) (hK:∀ a w,K a w->K' a w) (h:o.wp P a w K Q):o.wpIn F n P a w K' Q:=by
 refine ⟨fun _ _=>hF.fn _,?_⟩;unfold Oper.wp at h;rw [hF.sem hd];generalize (execOp a.eval o).run P w=r at *;cases r with
 | ok x w'=>
  cases x with
  | value v=>exact hK _ _ h
  | skip=>exact hK _ _ h
  | defer d=>exact hK _ _ h
  | enter f args=>exact ⟨hF.depth,hF.calls (Calls.mono h fun e w'' he=>by cases e<;>first | exact hK _ _ he | exact he)⟩
  | row row args=>exact ⟨hF.depth,abB hF (Rows.mono h fun v w'' he=>hK _ _ he)⟩
  | _=>exact h.elim
 | halt x w'=>
  cases x<;>first | exact h | exact h.elim
def J3 (ops:Array Oper):Bool:=ops.all fun o=>match o.op with | .defer _=>false | _=>true
theorem abM (h:J3 ops=true) {i:Nat} {o:Oper} (ho:ops[i]? = some o):∀ c,o.op≠.defer c:=by
 intro c hc;have:=Array.all_eq_true.1 h i (Array.getElem?_eq_some_iff.1 ho).1;rw [(Array.getElem?_eq_some_iff.1 ho).2,hc] at this;cases this
theorem YT (hF:WideF F) (hno:¬LetsOut Q) (hd:J3 ops=true):∀ (fuel:Nat) (listed:Array Bool) (a:Act) (w:World),wpAny P md ops Q fuel listed a w->wpAnyIn F n P md ops Q fuel listed a w
 | 0,_,_,_,h=>h
 | fuel + 1, listed, a, w, h => ⟨h.1, fun i hi => by
   have h2:=h.2 i hi;have ih:=YT hF hno hd fuel (listed.setIfInBounds i true);unfold wpOp at h2;unfold wpOpIn;cases ho:ops[i]? with
   | none=>rw [ho] at h2;exact ih _ _ h2
   | some o=>
    rw [ho] at h2;simp only at h2 ⊢
    split
    ·rename_i hw
     rw [if_pos hw] at h2;rcases h2 with h2 | ⟨-,h2⟩
     ·exact Oper.wpIn_of_wp hF (abM hd ho) ih h2
     exact absurd h2 hno
    rename_i hw
    rw [if_neg hw] at h2;exact ⟨fun _ _=>hF.fn _,ih _ _ h2⟩⟩
def inQ (Q:Exit->Act->World->Prop):Exit->Act->World->Prop:=fun e a w=>e=.normal/\Q e a w
theorem ajZ:¬LetsOut (inQ Q):=fun ⟨_,_,h,_⟩=>by cases h
theorem Um {a:Act} {w:World} (h:Q .normal a w):inQ Q .normal a w:=⟨rfl,h⟩
theorem yO (hF:WideF F) (S:World->Prop) (lst:List (Nat×Bool)) {id:Nat} {a:Act} {w:World} (hm:P.follows .mixedOrders=true) (hs:Region.noSelect ops=true) (hd:J3 ops=true)
  (ho:(lst.length==ops.size&&Yi .any ops lst (Array.replicate ops.size false))=true)
  (h:zI P ops (inQ Q) S lst a w.drew):(Code.region id ops true).wpIn F n P Q a w:=by
 simp only [Bool.and_eq_true,beq_iff_eq] at ho;exact Code.wpIn_mono (Q:=inQ Q) (fun _ _ _ h=>h.2) (wpIn_region_any hm (YT hF ajZ hd _ _ _ _ (wpAny_of_held _ _ _ _ (Yb hs (fun d v c a w h=>by cases h.1) lst ops.size _ a _ (by omega) ho.2 h))))
end
end
end Go.Proofs.YtjpjalmilfgckaaGreatDoor
