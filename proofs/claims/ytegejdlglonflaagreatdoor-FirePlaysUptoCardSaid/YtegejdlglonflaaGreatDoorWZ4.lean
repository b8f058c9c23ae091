/-
  Texts of FirePlays, laid together by program.
-/
import Derived.Test.YtegejdlglonflaaGreatDoorWZ1
import Derived.ControlIn
import Derived.Scope
import Derived.Deep.Slices
import Derived.ProofKit
import Derived.OpenShut
namespace Go.Proofs.YtegejdlglonflaaGreatDoor
open Go.RowKit Go.Shelf Go.Proofs.Tryz
set_option maxRecDepth 100000
set_option maxHeartbeats 8000000
set_option linter.unusedVariables false
set_option linter.unusedSimpArgs false
section
variable {F:Fence} {n:Nat} {P:Program} {b:Frame} {a:Act} {k:List Item} {cs:List Frame} {w:World} {Q:Exit->Act->World->Prop}
theorem Y2{c:Code}:step P (lone (b.atR a (.code (.scope c)::k)) cs w)= .next (lone (b.atR a (.code c:: .inScope c::k)) cs w):=
 step_lone_go (by simp[stepG,stepG.exec,Frame.atR])
theorem Za{c:Code}:step P (lone (b.atR a (.inScope c::k)) cs w)= .next (lone (b.atR a k) cs w):=
 step_lone_go (by simp[stepG,stepG.exec,Frame.atR])
theorem Y9{c:Code}(h:c.wpIn F n P (Exit.noGoto Q) a w):(Code.scope c).wpIn F n P Q a w:=by
 intro b k cs hro hb hr;have h0:(lone (b.atR a (.code (.scope c)::k)) cs w).fenced P F:=fenced_calm hb hr rfl;obtain⟨e,a₁,w₁,hq,harr⟩:=h b (.inScope c::k) cs hro hb hr;cases e with
 |normal=>exact⟨.normal,a₁,w₁,hq,.head h0 Y2 (StepsIn.trans harr (.one (fenced_calm hb hr rfl) Za))⟩
 |exit id=>
  have hx:exitTo id (.inScope c::k)=exitTo id k:=by simp[exitTo]
  exact⟨.exit id,a₁,w₁,hq,fun k' hk=> .head h0 Y2 (harr.1 k' (by rw[hx];exact hk)),
   fun hr' hk=>let ⟨k₁,h1,h2⟩:=harr.2 hr' (by rw[hx];exact hk);⟨k₁,h1,.head h0 Y2 h2⟩⟩
 |goto l=>exact hq.elim
 |ret=>exact⟨_,a₁,w₁,hq,.of_steps (.one h0 Y2) harr⟩
 |panic ch=>exact⟨_,a₁,w₁,hq,.of_steps (.one h0 Y2) harr⟩
 |outgrown=>exact⟨_,a₁,w₁,hq,.of_steps (.one h0 Y2) harr⟩
theorem noGoto_normal{a:Act}{w:World}(h:Q .normal a w):Exit.noGoto Q .normal a w:=h
end
section
open Go.RowKit Go.ChangeShapes Go.WideShapes Go.ChangeAt
def BytesAt(w:World)(a:Option Addr)(z:List Nat):Prop:=(∀x∈z,x<256)/\∀i (hi:i<z.length),∃b o,a=some ⟨b,o,none⟩/\b<w.heap.size/\w.cell? ⟨b,o+i,none⟩=some (.int .u8 (z[i]:Int))
theorem ah6{H:Type}{enc:TypeId×Value->H}{w:World}{base:Nat}{spare:Nat->Bool}{held:Bool}{r:Reach}{b0:Nat}{v:Value}{d:DataW H}{p:List MemPlace}(hv:Value.okWide prog w r b0 84 v)(h:DataW.Trod enc prog w base spare held 84 v d p):
  ∃(a:Option Addr) (len cap:Nat) (z:List Nat),v= .slice a len cap/\len<=maxLen/\z.length=len/\BytesAt w a z:=by
 obtain⟨a,len,cap,rfl⟩:=okWide_slice underlying84 hv;obtain⟨fuel,hf⟩:=h;rcases open_ints underlying84 underlying5 (by kernel_rfl) hf with ⟨hcs,_⟩|⟨x,l,c,zs,hcs,_,hl,hm,hz,_,hcell,hwz⟩
 .simp[Value.cells]at hcs
  obtain⟨rfl,rfl,rfl⟩:=hcs;exact⟨none,0,0,[],rfl,by simp[maxLen],rfl,by simp,fun i hi=>by simp at hi⟩
 .simp[Value.cells]at hcs
  obtain⟨rfl,rfl,rfl⟩:=hcs;have hz':len<=zs.length:=by rw[hz];split<;>omega
  have hb:∀n∈zs,0<=n/\n<256:=fun n hn=>by
   have :=bounds_u8 (hwz n hn);omega
  refine⟨_,len,cap,(zs.take len).map Int.toNat,rfl,by omega,by simp;omega,?_,?_⟩
  .intro z hz'
   obtain⟨n,hn,rfl⟩:=List.mem_map.1 hz';have :=hb n (List.mem_of_mem_take hn);omega
  .intro i hi
   simp only[List.length_map,List.length_take]at hi;have hi2:i<zs.length:=by omega
   have hc:=hcell i (by omega);obtain⟨b,o,sp⟩:=x;have hsp:sp=none:=by
    have :=hcell 0 (by omega);simpa[Addr.add]using World.cell?_spot this
   subst hsp;refine⟨b,o,rfl,World.block_lt_of_cell? w ⟨b,o,none⟩ (u:= .int .u8 (zs.getD 0 0)) (by have :=hcell 0 (by omega);simpa[Addr.add]using this),?_⟩;have e2:zs.getD i 0=zs[i]:=by simp[List.getD,hi2]
   have hbi:=hb zs[i] (List.getElem_mem hi2);rw[Addr.add_lit]at hc;rw[hc,e2];simp only[List.getElem_map,List.getElem_take];rw[show((zs[i].toNat:Nat):Int)=zs[i] by omega]
end
section
open Go.RowKit
def X4{β:Type}(Fin:β->Prop)(J Jx:β->World->Prop)(e:Ending)(W:World):Prop:=(∃v,e= .returned v)/\((∃b,Fin b/\J b W)\/∃b,Jx b W)
theorem ZA{m n:Nat}{P:Program}{l:Nat}{args:Array Value}{W:World}{R:Ending->World->Prop}(h:YieldAt Fence.wide m P l args W R):YieldAt Fence.wide n P l args W R:=by
 obtain⟨fn,tmps,assign,body,hy,hR⟩:=h;exact⟨fn,tmps,assign,body,hy,hR.1,fun c cs _=>hR.2 c cs (room_wide _)⟩
theorem Wl{β:Type}{P:Program}{n:Nat}{g:Operand}{ps:Array Tmp}{assign body:Code}{Q:Exit->Act->World->Prop}{a:Act}{w:World}{gf:Nat}{lb:Array Value}(hg:a.eval g= .func (.func gf) #[] lb)(eg:∀args w,(callFunc gf args).run P w= .ok (.enter gf args) w)(J:β->World->Prop)(Jx:Code->β->World->Prop)(Fin:β->Prop)(arg:β->Array Value->β->Prop)(hps:∀b xs b',arg b xs b'->xs.size=ps.size)(hJ:∀b W o,J b W->J b (W.putObj (w.heap.size+1) o))(hJx:∀c b W o,Jx c b W->Jx c b (W.putObj (w.heap.size+1) o))(b0:β)(h0:∀o,J b0 ((w.alloc (.deferred (some []))).alloc o))(Y7:∀b xs b' W,arg b xs b'->J b W->w.heap.size+1<W.heap.size->
   assign.wpIn (Fence.wide.inRound (w.heap.size+1)) (n-1-1) P (Exit.then (fun a1 W1=>Kept w.heap.size W W1/\
    ∀o,body.wpIn (Fence.wide.inRound (w.heap.size+1)) (n-1-1) P (Z0 w.heap.size (W1.putObj (w.heap.size+1) o) (J b') (fun c=>Jx c b')) a1 (W1.putObj (w.heap.size+1) o)) (fun _ _ _=>False))
    {tmps:=(ps.zip xs).foldl (fun t (p,v)=>t.setIfInBounds p v) a.tmps,defers:=[]} W)(hiter:∀(J' Zu:β->World->Prop),(∀b W,J' b W->J b W/\w.heap.size+1<W.heap.size)->(∀b W b' W',J' b W->J b' W'->Kept w.heap.size W W'->J' b' W')->
   (∀b W,Zu b W->(∃c,Jx c b W)/\w.heap.size+1<W.heap.size)->(∀b W b' W',Zu b W->(∀c,Jx c b W->Jx c b' W')->Kept w.heap.size W W'->Zu b' W')->
   (∀b xs b' W,arg b xs b'->J' b W->YieldAt Fence.wide (n-1-1) P (w.heap.size+1) xs W (Told (J' b') (Zu b')))->
   ∀W,J' b0 W->CallsIn Fence.wide (n-1) P gf (#[.func (.yield (w.heap.size+1)) #[] #[]]++lb) W (X4 Fin J' Zu))(hdone:∀b W,Fin b->J b W->W.heap[w.heap.size]? =some (.deferred (some []))->w.heap.size+1<W.heap.size->Q .normal {a with defers:={target:= .collected w.heap.size,args:=#[]}::a.defers} W)(hstop:∀c b W,Jx c b W->W.heap[w.heap.size]? =some (.deferred (some []))->w.heap.size+1<W.heap.size->c.wpIn Fence.wide n P Q {a with defers:={target:= .collected w.heap.size,args:=#[]}::a.defers} W):
  (Code.rangeFunc g ps assign body).wpIn Fence.wide n P Q a w:=by
 refine wpIn_rangeFunc ?_;intro fn _;obtain⟨rec,hrec⟩:∃rec:LoopState->Option Code->Loop,rec=fun st pe=>{state:=st,pending:=pe,fn,tmps:=a.tmps,params:=ps,assign,body,defers:=w.heap.size}:=⟨_,rfl⟩;obtain⟨W1,hW1⟩:∃W1,(w.alloc (.deferred (some []))).alloc (.loop (rec .ready none))=W1:=⟨_,rfl⟩;have hL1:W1.heap[w.heap.size+1]? =some (.loop (rec .ready none)):=by
  rw[<-hW1];have :=World.alloc_heap_new (w.alloc (.deferred (some []))) (.loop (rec .ready none));rwa[World.size_alloc]at this
 have hK1:W1.heap[w.heap.size]? =some (.deferred (some [])):=by
  rw[<-hW1];exact(Below.heap_alloc _ _ _ (by simp)).trans (World.alloc_heap_new w _)
 refine⟨w.heap.size+1,[{target:= .collected w.heap.size,args:=#[]}],W1,{target:= .fn (.func gf) lb,args:=#[.func (.yield (w.heap.size+1)) #[] #[]]},W1,gf,
  #[.func (.yield (w.heap.size+1)) #[] #[]]++lb,W1,?_,?_,?_,?_,fun h=>by simp[Fence.wide]at h,?_⟩
 .rw[<-hW1,hrec];exact run_enterLoop_outer _ _ _ _ _
 .simp only[resolve,hg]
  simp[go_sem]
 .intro f' _;trivial
 .simp[invoke,go_sem,eg]
 .refine(hiter (fun b W=>J b W/\W.heap[w.heap.size+1]? =some (.loop (rec .ready none))/\W.heap[w.heap.size]? =some (.deferred (some [])))
   (fun b W=>∃c,Jx c b W/\W.heap[w.heap.size+1]? =some (.loop (rec .done (some c)))/\W.heap[w.heap.size]? =some (.deferred (some [])))
   (fun b W h=>⟨h.1,(Array.getElem?_eq_some_iff.1 h.2.1).1⟩) (fun b W b' W' h h' hk=>⟨h',hk.2.trans h.2.1,hk.1.trans h.2.2⟩)
   (fun b W ⟨c,h1,h2,h3⟩=>⟨⟨c,h1⟩,(Array.getElem?_eq_some_iff.1 h2).1⟩) (fun b W b' W' ⟨c,h1,h2,h3⟩ hc hk=>⟨c,hc c h1,hk.2.trans h2,hk.1.trans h3⟩) ?_ W1 ⟨by rw[<-hW1];exact h0 _,hL1,hK1⟩).mono ?_
  .rintro b xs b' W ZJ ⟨hj,hl,hk⟩
   have hlt:w.heap.size+1<W.heap.size:=(Array.getElem?_eq_some_iff.1 hl).1;have hy:=run_yield (P:=P) (args:=xs) hl (by rw[hrec];exact hps _ _ _ ZJ);rw[hrec]at hy;refine⟨fn,_,assign,body,hy,roundIn_of_wpIn trivial (wpIn_mono (Y7 b xs b' W ZJ hj hlt) ?_)⟩;rintro ex a1 Wa hpost;cases ex with
   |ret=>exact hpost.elim
   |exit id=>exact hpost.elim
   |goto t=>exact hpost.elim
   |panic ch=>exact hpost.elim
   |outgrown=>exact hpost.elim
   |normal=>
   obtain⟨hka,hbody⟩:=hpost;have hl1:=hka.2.trans hl;have hk1:=hka.1.trans hk;have hlt1:w.heap.size+1<Wa.heap.size:=(Array.getElem?_eq_some_iff.1 hl1).1;refine⟨_,run_beginRound hl1 (by rw[hrec]),?_⟩;have hl2:(Wa.putObj (w.heap.size+1) (.loop {rec .ready none with state:= .busy})).heap[w.heap.size+1]? =some (.loop {rec .ready none with state:= .busy}):=World.putObj_heap_same hlt1;have hk2:(Wa.putObj (w.heap.size+1) (.loop {rec .ready none with state:= .busy})).heap[w.heap.size]? =some (.deferred (some [])):=(World.putObj_heap_other (by omega)).trans hk1;refine wpIn_mono (hbody _) ?_;have fin:∀(jump:Option Code) (W3:World),Kept w.heap.size (Wa.putObj (w.heap.size+1) (.loop {rec .ready none with state:= .busy})) W3->
     (Instr.endRound (w.heap.size+1) jump).run P W3= .ok (.bool jump.isNone) (W3.putObj (w.heap.size+1) (.loop (rec (if jump.isNone then .ready else .done) jump)))/\
     (W3.putObj (w.heap.size+1) (.loop (rec (if jump.isNone then .ready else .done) jump))).heap[w.heap.size+1]? =some (.loop (rec (if jump.isNone then .ready else .done) jump))/\
     (W3.putObj (w.heap.size+1) (.loop (rec (if jump.isNone then .ready else .done) jump))).heap[w.heap.size]? =some (.deferred (some [])):=fun jump W3 hk3=>by
    have hl3:=hk3.2.trans hl2;have :=run_endRound (P:=P) jump hl3;rw[hrec]at this|-;exact⟨this,World.putObj_heap_same (Array.getElem?_eq_some_iff.1 hl3).1,(World.putObj_heap_other (by omega)).trans (hk3.1.trans hk2)⟩
   rintro e a3 W3 hp;cases e with
   |normal=>
    obtain⟨hk3,hj3⟩:=hp;obtain⟨hr,hl4,hk4⟩:=fin none W3 hk3;exact⟨_,_,hr,.inl ⟨rfl,hJ _ _ _ hj3,hl4,hk4⟩⟩
   |ret=>
    obtain⟨hk3,hj3⟩:=hp;obtain⟨hr,hl4,hk4⟩:=fin (some .ret) W3 hk3;exact⟨_,_,hr,.inr ⟨rfl,.ret,hJx _ _ _ _ hj3,hl4,hk4⟩⟩
   |exit id=>
    obtain⟨hk3,hj3⟩:=hp;obtain⟨hr,hl4,hk4⟩:=fin (some (.exit id)) W3 hk3;exact⟨_,_,hr,.inr ⟨rfl,.exit id,hJx _ _ _ _ hj3,hl4,hk4⟩⟩
   |goto t=>
    obtain⟨hk3,hj3⟩:=hp;obtain⟨hr,hl4,hk4⟩:=fin (some (.goto t)) W3 hk3;exact⟨_,_,hr,.inr ⟨rfl,.goto t,hJx _ _ _ _ hj3,hl4,hk4⟩⟩
   |panic ch=>exact hp.elim
   |outgrown=>exact hp.elim
  .rintro e W2 ⟨⟨v,rfl⟩,(⟨b,hF,hj,hl,hk⟩|⟨b,c,hj,hl,hk⟩)⟩
   .exact⟨none,_,by have :=run_endLoop (P:=P) hl (by rw[hrec];simp);rw[hrec]at this;exact this,hdone b _ hF (hJ _ _ _ hj) ((World.putObj_heap_other (by omega)).trans hk) (by rw[World.putObj_size];exact(Array.getElem?_eq_some_iff.1 hl).1)⟩
   .exact⟨some c,_,by have :=run_endLoop (P:=P) hl (by rw[hrec];simp);rw[hrec]at this;exact this,hstop c b _ (hJx _ _ _ _ hj) ((World.putObj_heap_other (by omega)).trans hk) (by rw[World.putObj_size];exact(Array.getElem?_eq_some_iff.1 hl).1)⟩
end
theorem pK{a b:Nat}(h:a=b):Ending.returned (.int .i64 (a:Int))= .returned (.int .i64 (b:Int)):=by rw[h]
theorem I8{a b:Bool}(h:a=b):Ending.returned (.bool a)= .returned (.bool b):=by rw[h]
theorem MT.mo{l:List MT}{j:Nat}(hj:j<l.length):MT.aV (l.take (j+1))=MT.aV (l.take j)+(l[j]).nodes:=by
 rw[List.take_add_one,List.getElem?_eq_getElem hj,MT.iE];simp[MT.aV]
theorem MT.nY(l:List MT)(j:Nat):MT.aV (l.take j)<=MT.aV l:=by
 have h:=MT.iE (l.take j) (l.drop j);rw[List.take_append_drop]at h;omega
theorem zO:∀(t:MT) (m:Nat) (w:World),t.In w->m<=256->
  Calls prog 262 #[t.val,(m:Int)] w fun e w'=>e= .returned (.int .i64 ((min (m+t.nodes) 257:Nat):Int))/\Touch [] w w':=by
 intro t;induction t using MT.ind with
 |h k n a c l ih=>
 intro m w hin hm;have Ed:=hdq hin;have GY:=hdq ih;have hlen:=hin.len;simp only[MT.parts]at hlen;clear hin ih;simp only[MT.val,MT.kind,MT.num,MT.sl,MT.addr,MT.parts,MT.cap];go_enter func262,ntmps262
 go_wp2_with fail
 refine ay ?_;intro w1 hw1;have HT1:Hid (Touch [] w w1):=hw1▸(Touch.refl [] w).alloc _;clear hw1;go_loopw [1,12] (fun x i wr=>∃(j:Nat),j<=l.length/\i= .int .i64 (j:Int)/\x= .int .i64 ((min (m+1+MT.aV (l.take j)) 257:Nat):Int)/\Hid (Touch [] w wr)) (fun _ i _=>l.length-(intOf i).toNat)
 case atStart=>exact⟨0,Nat.zero_le _,rfl,by simp[MT.aV];omega,HT1⟩
 case round=>
  obtain⟨j,hj,rfl,rfl,HW⟩:=hrel;by_cases hjl:j<l.length
  .have Cc:(j:Int)<(l.length:Int):=by omega
   obtain⟨b,o,rfl,hb,c0,c1,c2⟩:=(Ed.o.aO HW.o).row.cellAt hjl;have HU:=hdq ((Ed.o.aO HW.o).part (List.getElem_mem hjl));have HI:=hdq (GY.o _ (List.getElem_mem hjl));have HS:=hdq (MT.mo hjl);have HP:=hdq (MT.sw l[j]);simp only[MT.parts]at c0 c1 c2 HU HI;generalize l[j]=u at c0 c1 c2 HU HI HS HP;simp only[MT.sl]at c2;clear Ed GY;obtain⟨N,hN⟩:∃N,min (m+1+MT.aV (l.take j)) 257=N:=⟨_,rfl⟩;rw[hN];have HN:=hdq hN;clear hN;by_cases hb2:N<=256
   .have hb3:¬(256:Int)<(N:Int):=by omega
    go_wp2_with fail
    refine(HI.o N _ (HU.o.alloc _) hb2).mono ?_;rintro e w2 ⟨rfl,ht⟩;have HW2:=hdq (HW.o.trans' (((Touch.refl [] wr).alloc _).trans' ht));clear ht;go_wp2;go_roundw
    case rel=>exact⟨j+1,by omega,by go_num,by have :=HN.o;have :=HS.o;rw[HS.o];congr 2;omega,HW2⟩
    case measure=>simp[intOf];omega
   .have hb3:(256:Int)<(N:Int):=by omega
    go_wp2;go_ret
    refine⟨pK ?_,HW.o.alloc _⟩;have h1:=HN.o;have h2:=MT.nY l j;simp only[MT.nodes];omega
  .have Cc:¬(j:Int)<(l.length:Int):=by omega
   go_wp2;go_ret
   refine⟨pK ?_,HW.o⟩;rw[List.take_of_length_le (by omega)];simp only[MT.nodes];omega
theorem rV(t:MT)(w:World)(h:t.In w):Calls prog 189 #[t.val] w fun e w'=>e= .returned (.bool (decide (t.nodes<=256)))/\Touch [] w w':=by
 have H:=hdq (fun W (hW:Touch [] w W)=>zO t 0 W (h.aO hW) (by omega));clear h;simp only[MT.val,MT.sl]at H|-;go_enter func189,ntmps189
 go_wp2_with fail
 refine(H.o _ ((Touch.refl [] w).alloc _)).mono ?_;rintro e w2 ⟨rfl,ht⟩;have HT:=hdq (((Touch.refl [] w).alloc _).trans' ht);clear ht;go_wp2;go_ret
 refine⟨I8 ?_,HT.o⟩;simp only[decide_eq_decide];omega
section
theorem uL:(prog.info? 58).map (fun i=>(i.zero,i.size,i.bytes))=some (some (.agg #[(),(),True]),3,40):=by kernel_rfl
def bg(l:List MT):List Value:=l.flatMap MT.cells
theorem dw(l:List MT):(bg l).length=l.length*3:=by
 induction l with
 |nil=>rfl
 |cons x l ih=>simp only[bg,List.flatMap_cons,List.length_append,MT.bH,List.length_cons]at ih|-;omega
theorem oV(a b:List MT):bg (a++b)=bg a++bg b:=by simp[bg]
theorem fI(l:List MT)(i:Nat)(hi:i<l.length)(j:Nat)(hj:j<3):(bg l)[i*3+j]? =l[i].cells[j]? :=by
 induction l generalizing i with
 |nil=>simp at hi
 |cons x l ih=>
  simp only[bg,List.flatMap_cons];cases i with
  |zero=>
   rw[List.getElem?_append_left (by simp[MT.bH];omega)];simp
  |succ i=>
   rw[List.getElem?_append_right (by simp[MT.bH];omega)];have :=ih i (by simpa using hi);simp only[MT.bH,List.getElem_cons_succ];rw[show(i+1)*3+j-3=i*3+j from by omega];exact this
theorem ug(l:List MT)(i:Nat)(hi:i<l.length)(x:MT):
  bg (l.set i x)=((((bg l).set (i*3) (.int .i64 x.kind)).set (i*3+1) (.int .i64 x.num)).set (i*3+2) x.sl):=by
 induction l generalizing i with
 |nil=>simp at hi
 |cons y l ih=>
  cases i with
  |zero=>simp[bg,MT.cells]
  |succ i=>
   have :=ih i (by simpa using hi);simp only[bg,sSq,List.flatMap_cons]at this|-;rw[this];simp only[MT.cells,cAq,nAq];rw[show(i+1)*3=i*3+1+1+1 from by omega];simp only[sSq]
theorem Ak{w:World}{v:Value}{l:List MT}{e g cap:Nat}(h:dZ w e 3 (.slice (some ⟨g,0,none⟩) l.length cap) l.length (bg l)):MT.dK w (some ⟨g,0,none⟩) l:=by
 intro i hi;have hl:=dw l;refine⟨g,0,rfl,lY h g (by simp[sb,Value.ownBlock]),fun j hj=>?_⟩;have hlt:i*3+j<(bg l).length:=by omega
 have hc:=eT h (i*3+j) hlt;rw[<-fI l i hi j hj,Nat.zero_add,hc,List.getElem?_eq_getElem hlt]
section
variable {T:List Nat} {w0 w w':World} {l:List ai}
theorem BD.pI(h:BD T w0 w l)(i:Nat){e size g n cap:Nat}{xs:List Value}(hi:l[i]? =some (aS e size (.slice (some ⟨g,0,none⟩) n cap) n xs))(j:Nat)(u:Value):
  BD T w0 (w.setCell ⟨g,j,none⟩ u) (l.set i (aS e size (.slice (some ⟨g,0,none⟩) n cap) n (xs.set j u))):=by
 obtain⟨f,⟨hf,hb⟩,_,hs⟩:=h.step i hi;subst hf;exact hs _ _ _ ⟨rfl,Iw hb j u⟩ ⟨(Touch.refl _ w).setCell _ _ (.inl (by simp[sb,Value.ownBlock])),fun k hk=> .inl hk⟩
theorem BD.ol(h:BD T w0 w l)(i j:Nat){e size g n cap:Nat}{xs:List Value}{b t:Nat}{cs:Array Value}(hi:l[i]? =some (aS e size (.slice (some ⟨g,0,none⟩) n cap) n xs))(hj:l[j]? =some (Proofs.YtegejdlglonflaaGreatDoor.box b t cs))(hij:i≠j):g≠b:=by
 obtain⟨_,F,h1,h2⟩:=h;have e1:=(h1 i _ hi).1.1;have e2:=(h1 j _ hj).1.1;have :=h2 i j (List.getElem?_eq_some_iff.1 hi).1 (List.getElem?_eq_some_iff.1 hj).1 hij g (by rw[e1];simp[sb,Value.ownBlock]);rw[e2]at this;simpa using this
end
theorem BD.zK{T:List Nat}{w0 w:World}{l:List ai}(h:BD T w0 w l)(i:Nat){e g n cap:Nat}{vs:List MT}(hi:l[i]? =some (aS e 3 (.slice (some ⟨g,0,none⟩) n cap) n (bg vs))){j:Nat}(hj:j<vs.length):
  w.cell? ⟨g,j*3,none⟩=some (.int .i64 vs[j].kind)/\w.cell? ⟨g,j*3+1,none⟩=some (.int .i64 vs[j].num)/\w.cell? ⟨g,j*3+2,none⟩=some vs[j].sl/\w.frozen? ⟨g,j*3,none⟩=false/\w.frozen? ⟨g,j*3+1,none⟩=false/\w.frozen? ⟨g,j*3+2,none⟩=false/\g<w.heap.size:=by
 have hr:=h.aZ i hi;have hl:=dw vs;have hc:∀q,q<3->w.cell? ⟨g,j*3+q,none⟩=vs[j].cells[q]? :=fun q hq=>by
  have hlt:j*3+q<(bg vs).length:=by omega
  rw[eT hr _ hlt,<-fI vs j hj q hq,List.getElem?_eq_getElem hlt]
 exact⟨hc 0 (by omega),hc 1 (by omega),hc 2 (by omega),ji hr _,ji hr _,ji hr _,lY hr g (by simp[sb,Value.ownBlock])⟩
def fP(m:Nat):Array Value:=(bg (List.replicate m MT.zero)).toArray
theorem qZ(m:Nat):madeCells #[(),(),True] (m*3)=fP m:=by
 apply Array.ext
 .simp[madeCells,fP,dw]
 .intro i h1 h2
  have hi:i<m*3:=by simpa[madeCells]using h1
  have hg:=fI (List.replicate m MT.zero) (i / 3) (by simp;omega) (i % 3) (by omega);rw[show i / 3*3+i % 3=i by omega]at hg;have :(fP m)[i]? =(MT.zero.cells)[i % 3]? :=by
   simp only[fP,List.getElem?_toArray];rw[hg];simp
  rw[Array.getElem?_eq_getElem h2]at this;have h3:i % 3=0\/i % 3=1\/i % 3=2:=by omega
  simp only[madeCells,Array.getElem_ofFn];rcases h3 with h3|h3|h3<;>simp[h3,MT.cells,MT.zero,MT.kind,MT.num,MT.sl,MT.addr,MT.parts,MT.cap]at this|- <;>exact this.symm
theorem Aa(m:Nat)(hm:m<=1048576)(W:World):(Instr.makeSlice 56 (.int .i64 (m:Int)) (.int .i64 (m:Int))).run prog W=
  .ok (.slice (some ⟨W.heap.size,0,none⟩) m m) (W.alloc (.cells (fP m) 58)):=by
 obtain⟨i0,hi,CY,CU,CX⟩:=info_parts uL;have hr:=run_make (P:=prog) W 56 58 i0 _ underlying56 hi CY .i64 .i64 m m (by omega) (by omega) (by rw[CX];omega) (by omega);rw[CU]at hr;simpa[Value.cells,qZ]using hr
theorem row_zero(m:Nat)(hm:m<=1048576)(W:World):dZ (W.alloc (.cells (fP m) 58)) 58 3 (.slice (some ⟨W.heap.size,0,none⟩) m m) m (bg (List.replicate m MT.zero)):=by
 have hl:=dw (List.replicate m MT.zero);rw[List.length_replicate]at hl;exact⟨hl,.inr ⟨W.heap.size,m,fP m,rfl,heap_alloc_new W _,Nat.le_refl _,by simp only[maxLen];omega,by simp[fP,hl],List.take_of_length_le (by simp[fP,hl])⟩⟩
theorem BD.JR{T:List Nat}{w0 w:World}{l:List ai}(h:BD T w0 w l)(m:Nat)(hm:m<=1048576){w':World}(e:w.alloc (.cells (fP m) 58)=w'):BD T w0 w' (l++[aS 58 3 (.slice (some ⟨w.heap.size,0,none⟩) m m) m (bg (List.replicate m MT.zero))]):=
 e▸h.new (t':=aS 58 3 (.slice (some ⟨w.heap.size,0,none⟩) m m) m (bg (List.replicate m MT.zero))) ⟨rfl,row_zero m hm w⟩ ⟨(Touch.refl [] w).alloc _,fun k hk=> .inr (by simp[sb,Value.ownBlock]at hk;omega)⟩
theorem zM(k n:Int)(w:World):(Instr.build 58 #[(0,.int .i64 k),(1,.int .i64 n)]).run prog w= .ok (.agg #[k,n,True]) w:=run_build w 58 _ _ (by kernel_rfl)
attribute [local go_sem] zM
theorem ah{P:Program}{f:FuncId}{args:Array Value}{Q:Ending->World->Prop}{W:World}(h:∀w2,W=w2->Calls P f args w2 Q):Calls P f args W Q:=h W rfl
theorem KT(d:List MT)(t:MT){j m:Nat}(hd:d.length=j)(hj:j<m):(d++List.replicate (m-j) MT.zero).set j t=(d++[t])++List.replicate (m-(j+1)) MT.zero:=by
 rw[List.set_append_right _ _ (by omega),hd,Nat.sub_self,show m-j=(m-(j+1))+1 by omega,List.replicate_succ,List.set_cons_zero,List.append_assoc];rfl
theorem BD.rowge{T:List Nat}{w0 w:World}{l:List ai}(h:BD T w0 w l)(i:Nat){e size g n cap:Nat}{xs:List Value}(hi:l[i]? =some (aS e size (.slice (some ⟨g,0,none⟩) n cap) n xs)):g∈T\/w0.heap.size<=g:=by
 obtain⟨f,⟨hf,_⟩,hg⟩:=h.get i hi;exact hg g (by rw[hf];simp[sb,Value.ownBlock])
def yu(t:MT)(w:World)(e:Ending)(w':World):Prop:=∃t':MT,e= .returned t'.val/\t'.plain=t.plain/\t'.In w'/\(∀k∈t'.blocks,w.heap.size<=k)/\Touch [] w w'
theorem Bv:∀(t:MT) (w:World),t.In w->t.nodes<=1048576->Calls prog 190 #[t.val] w (yu t w):=by
 intro t;induction t using MT.ind with
 |h k n a c l ih=>
 intro w hin hno;have Ed:=hdq hin;have GY:=hdq ih;have hlen:l.length<=1048576:=by
  have :=MT.length_le l;simp only[MT.nodes]at hno;omega
 have DJ:=hdq (fun u (hu:u∈l)=>Nat.le_trans (Nat.le_of_lt (MT.KV (t:= .mk k n a c l) hu)) hno);clear hin ih hno;simp only[MT.val,MT.kind,MT.num,MT.sl,MT.addr,MT.parts,MT.cap];have z0:w.heap.size<w.heap.size+1+1:=by omega
 have z1:w.heap.size<w.heap.size+1+1+1:=by omega
 have z2:w.heap.size+1<w.heap.size+1+1+1:=by omega
 have z3:w.heap.size+1+1<w.heap.size+1+1+1:=by omega
 by_cases hl0:l.length=0
 .obtain rfl:l=[]:=List.eq_nil_of_length_eq_zero hl0
  simp only[List.length_nil];go_enter func190,ntmps190
  go_wp2;refine bodyPost_ret (v:=(MT.mk k n none 0 []).val) (by simp[results,results190,go_sem,MT.val,MT.kind,MT.num,MT.sl,MT.addr,MT.parts,MT.cap]) rfl ?_;refine⟨.mk k n none 0 [],rfl,by simp[MT.plain],MT.rZ (by simp) (fun i hi=>by simp at hi) (by simp),by simp[MT.blocks,MT.dF],?_⟩;exact(((Touch.refl [] w).alloc _).alloc _).alloc _
 .have hmk:=Aa l.length hlen
  have hl1:(0:Int)<(l.length:Int):=by omega
  have hl2:0<l.length:=by omega
  go_enter func190,ntmps190
  go_wp2_with fail
  refine ay ?_;intro w1 hw1;have BB:=hdq (((((BD.nil' w).alloc _ _).alloc _ _).alloc _ _).JR l.length hlen hw1).yS;simp only[nAq,cAq,World.size_alloc]at BB;generalize hgg:w.heap.size+1+1+1=gg at BB|-;generalize hb3:w.heap.size+1+1=b3 at BB|-;generalize hb2:w.heap.size+1=b2 at BB|-;generalize hb1:w.heap.size=b1 at BB|-;have HB1:=hdq hb1;clear hgg hb3 hb2 hb1 hw1 z0 z1 z2 z3;go_loopw [23] (fun i wr=>∃(j:Nat) (d:List MT),j<=l.length/\i= .int .i64 (j:Int)/\d.length=j/\Hid (d.map MT.plain=(l.take j).map MT.plain/\∀t∈d,∀k∈t.blocks,w.heap.size<=k)/\
   Hid (BD [] w wr [box b1 58 #[.int .i64 k,n,.slice a l.length c],box b2 58 #[(),(),True],box b3 58 #[.int .i64 k,n,.slice (some ⟨gg,0,none⟩) l.length l.length],aS 58 3 (.slice (some ⟨gg,0,none⟩) l.length l.length) l.length (bg (d++List.replicate (l.length-j) MT.zero)),bS d])) (fun i _=>l.length-(intOf i).toNat)
  case atStart=>exact⟨0,[],Nat.zero_le _,rfl,rfl,⟨rfl,by simp⟩,by simpa using BB⟩
  case round=>
   obtain⟨j,d,hj,rfl,hdl,HD,HK⟩:=hrel;clear BB;by_cases hjl:j<l.length
   .have Cc:(j:Int)<(l.length:Int):=by omega
    obtain⟨b,o,rfl,hb,c0,c1,c2⟩:=(Ed.o.aO HK.o.BN).row.cellAt hjl;have HU:=hdq ((Ed.o.aO HK.o.BN).part (List.getElem_mem hjl));have HI:=hdq (GY.o _ (List.getElem_mem hjl));have HN:=hdq (DJ.o _ (List.getElem_mem hjl));have Eh:Hid ((l.take (j+1)).map MT.plain=(l.take j).map MT.plain++[l[j].plain]):=by
     unfold Hid;rw[List.take_add_one,List.getElem?_eq_getElem hjl,Option.toList_some,List.map_append];rfl
    simp only[MT.parts]at c0 c1 c2 HU HI HN;generalize l[j]=u at c0 c1 c2 HU HI HN Eh;simp only[MT.sl]at c2;clear Ed GY DJ;go_wp2_with fail
    refine ay ?_;intro w2 hw2;have HL2:=hdq (HK.o.DN hw2);have HU2:Hid (u.In w2.drew):=hw2▸(HU.o.alloc _).aO ((Touch.refl [] _).drew);simp only[nAq,cAq]at HL2;generalize hb5:wr.heap.size=b5 at HL2|-;have HB5:Hid (w.heap.size<=b5):=hb5▸HK.o.size;clear hw2 hb5 HK c0 c1 c2 hb HU;have hj0:(0:Int)<=(j:Int):=by omega
    obtain⟨x0,x1,x2,_,_,_,zx,_,_⟩:=HL2.o.c3 5 rfl;obtain⟨y0,y1,y2,_,_,_,zy,_,_⟩:=HL2.o.c3 2 rfl;have n1:=HL2.o.ol 3 2 rfl rfl (by decide);have n2:=HL2.o.ol 3 5 rfl rfl (by decide);have n3:=Ne.symm n1;have n4:=Ne.symm n2;go_region_held3 (fun w'=>w'.cell? ⟨b3,2,none⟩=some (.slice (some ⟨gg,0,none⟩) l.length l.length)/\w'.cell? ⟨b5,0,none⟩=some (.int .i64 u.kind)/\w'.cell? ⟨b5,1,none⟩=some (.int .i64 u.num)/\w'.cell? ⟨b5,2,none⟩=some (.slice u.addr u.parts.length u.cap)) (go_keep)
     (first
     |(go_at_call 190;refine(HI.o w2.drew HU2.o HN.o).mono ?_;rintro e w3 ⟨t',rfl,hpl,hin,hnew,ht⟩;have BF:=hdq (HL2.o.drew.gH (vs:=[t']) ht (by simpa using hin) (by simpa using hnew));simp only[nAq,cAq]at BF;have EA:=hdq hpl;have LW:Hid (∀k∈t'.blocks,w.heap.size<=k):=fun k hk=>Nat.le_trans HL2.o.size (hnew k hk);clear hpl hin hnew ht x0 x1 x2 y0 y1 y2 zx zy;obtain⟨x0,x1,x2,_,_,_,zx,_,_⟩:=BF.o.c3 5 rfl;obtain⟨y0,y1,y2,_,_,_,zy,_,_⟩:=BF.o.c3 2 rfl;obtain⟨g0,g1,g2,h0,h1,h2,zg⟩:=BF.o.zK 3 rfl (show j<_ by simp;omega);simp only[MT.val,MT.sl]))
    clear x0 x1 x2 y0 y1 y2 g0 g1 g2;have BH:Hid (BD [] w (((w3.setCell ⟨gg,j*3,none⟩ (.int .i64 t'.kind)).setCell ⟨gg,j*3+1,none⟩ (.int .i64 t'.num)).setCell ⟨gg,j*3+2,none⟩ t'.sl) [box b1 58 #[.int .i64 k,n,.slice (some ⟨b,o,none⟩) l.length c],box b2 58 #[(),(),True],box b3 58 #[.int .i64 k,n,.slice (some ⟨gg,0,none⟩) l.length l.length],aS 58 3 (.slice (some ⟨gg,0,none⟩) l.length l.length) l.length (bg ((d++[t'])++List.replicate (l.length-(j+1)) MT.zero)),bS (d++[t'])]):=by
     have h:=((BF.o.pI 3 rfl (j*3) (.int .i64 t'.kind)).pI 3 rfl (j*3+1) (.int .i64 t'.num)).pI 3 rfl (j*3+2) t'.sl;simp only[sSq,sZq]at h;rw[<-ug _ j (by simp;omega) t',KT d t' hdl hjl]at h;exact BD.ql (l:=[_,_,_,_]) (h.sel [0,1,2,3,4,6] rfl (by decide))
    clear BF HL2;go_wp2;go_roundw
    case rel=>
     refine⟨j+1,d++[t'],by omega,by go_num,by simp[hdl],⟨?_,?_⟩,BH⟩
     .rw[List.map_append,HD.o.1,Eh.o,<-EA.o]
      rfl
     .intro t ht
      rcases List.mem_append.1 ht with h|h
      .exact HD.o.2 t h
      .simp at h;subst h;exact LW.o
    case measure=>simp[intOf];omega
   .have Cc:¬(j:Int)<(l.length:Int):=by omega
    obtain rfl:j=l.length:=by omega
    obtain⟨y0,y1,y2,_,_,_,zy,_,_⟩:=HK.o.c3 2 rfl;obtain⟨x0,x1,x2,f0,f1,f2,zx,_,_⟩:=HK.o.c3 1 rfl;have n1:=HK.o.ne 1 2 rfl rfl (by decide);have n2:=Ne.symm n1;go_wp2;have BH:=hdq (((HK.o.set 1 rfl 0 (.int .i64 k)).set 1 rfl 1 (.int .i64 n)).set 1 rfl 2 (.slice (some ⟨gg,0,none⟩) l.length l.length));simp only[sSq,sZq,sAq]at BH;obtain⟨q0,q1,q2,_⟩:=BH.o.c3 1 rfl;have hv:(MT.mk k n (some ⟨gg,0,none⟩) l.length d).val= .agg #[.int .i64 k,n,.slice (some ⟨gg,0,none⟩) l.length l.length]:=by simp[MT.val,MT.kind,MT.num,MT.sl,MT.addr,MT.parts,MT.cap,hdl]
    refine bodyPost_ret (v:=(MT.mk k n (some ⟨gg,0,none⟩) l.length d).val) (by rw[hv];simp[results,results190,go_sem,q0,q1,q2]) rfl ?_;refine⟨_,rfl,?_,?_,?_,BH.o.BN⟩
    .simp only[MT.plain,MT.iM]
     rw[HD.o.1,List.take_length]
    .have hr:=BH.o.aZ 3 rfl
     simp only[Nat.sub_self,List.replicate_zero,List.append_nil]at hr;exact MT.rZ (by omega) (Ak (v:= .bool true) (show dZ _ 58 3 (.slice (some ⟨gg,0,none⟩) d.length l.length) d.length (bg d) by rw[hdl];exact hr)) (BH.o.fD 4 rfl)
    .intro b hb
     simp only[MT.blocks,List.mem_append]at hb;rcases hb with hb|hb
     .rw[if_neg (by omega)]at hb
      simp at hb
      subst hb;exact(BH.o.rowge 3 rfl).elim (by simp) id
     .obtain⟨t,ht,hk⟩:=MT.eU.1 hb
      exact HD.o.2 t ht b hk
theorem qG(t:MT)(w:World)(h:t.In w)(hn:t.nodes<=256):Calls prog 89 #[t.val] w (yu t w):=by
 have H:=hdq (fun W (hW:Touch [] w W)=>rV t W (h.aO hW));have H2:=hdq (fun W (hW:Touch [] w W)=>Bv t W (h.aO hW) (by omega));have HN:Hid (decide (t.nodes<=256)=true):=decide_eq_true hn;clear h hn;have z0:w.heap.size<w.heap.size+1+1:=by omega
 have z1:w.heap.size<w.heap.size+1:=by omega
 simp only[MT.val,MT.sl]at H H2|-;go_enter func89,ntmps89
 go_wp2_with fail
 refine ah ?_;intro w1 hw1;have BB:=hdq ((BD.nil' w).DZ hw1);simp only[nAq,cAq]at BB;refine(H.o _ BB.o.BN).mono ?_;rintro e w2 ⟨rfl,ht⟩;rw[HN.o];have HL2:=hdq (BB.o.touch ht);clear ht hw1 BB;generalize hb2:w.heap.size+1=b2 at HL2|-;generalize hb1:w.heap.size=b1 at HL2|-;clear hb2 hb1 z0 z1;obtain⟨y0,y1,y2,_,_,_,zy,_,_⟩:=HL2.o.c3 0 rfl;go_wp2_with fail
 refine(H2.o _ HL2.o.BN).mono ?_;rintro e w3 ⟨t',rfl,hpl,hin,hnew,ht⟩;have BF:=hdq (HL2.o.gH (vs:=[t']) ht (by simpa using hin) (by simpa using hnew));simp only[nAq,cAq]at BF;have LW:Hid (∀k∈t'.blocks,w.heap.size<=k):=fun k hk=>Nat.le_trans HL2.o.size (hnew k hk);have EA:=hdq hpl;clear hpl hin hnew ht y0 y1 y2 zy HL2;obtain⟨x0,x1,x2,f0,f1,f2,zx,_,_⟩:=BF.o.c3 1 rfl;simp only[MT.val,MT.sl];go_wp2;have BH:=hdq (((BF.o.set 1 rfl 0 (.int .i64 t'.kind)).set 1 rfl 1 (.int .i64 t'.num)).set 1 rfl 2 (.slice t'.addr t'.parts.length t'.cap));simp only[sSq,sZq,sAq]at BH;obtain⟨q0,q1,q2,_⟩:=BH.o.c3 1 rfl;refine bodyPost_ret (v:=t'.val) (by simp[results,results89,go_sem,q0,q1,q2,MT.val,MT.sl]) rfl ?_;exact⟨t',rfl,EA.o,BH.o.fD 2 rfl t' (by simp),LW.o,BH.o.BN⟩
end
def aI(p:Prop)(w:World)(e:Ending)(w':World):Prop:=∃c:Bool,e= .returned (.bool c)/\(c=true↔p)/\Touch [] w w'
theorem Touch.cellOf{w w':World}(h:Touch [] w w'){b o:Nat}{v:Value}(hc:w.cell? ⟨b,o,none⟩=some v):w'.cell? ⟨b,o,none⟩=some v:=
 (World.cell?_of_block (a:=⟨b,o,none⟩) (h.block b (World.block_lt_of_cell? _ _ hc) (by simp))).trans hc
theorem aI.no{p:Prop}{w w':World}(h:¬p)(ht:Touch [] w w'):aI p w (.returned (.bool false)) w':=⟨false,rfl,by simp[h],ht⟩
theorem aI.yes{p:Prop}{w w':World}(h:p)(ht:Touch [] w w'):aI p w (.returned (.bool true)) w':=⟨true,rfl,by simp[h],ht⟩
theorem MT.jL{k n k' n':Int}{a a':Option Addr}{c c':Nat}{l l':List MT}:(MT.mk k n a c l).plain=(MT.mk k' n' a' c' l').plain↔k=k'/\n=n'/\l.map MT.plain=l'.map MT.plain:=by
 simp only[MT.plain,MT.iM,MT.PT.mk.injEq]
theorem l6{l:List MT}{j:Nat}(hj:j<l.length):(l.take (j+1)).map MT.plain=(l.take j).map MT.plain++[l[j].plain]:=by
 rw[List.take_add_one,List.getElem?_eq_getElem hj,Option.toList_some,List.map_append];rfl
theorem Ja:∀(t u:MT) (w:World),t.In w->u.In w->Calls prog 174 #[t.val,u.val] w (aI (t.plain=u.plain) w):=by
 intro t;induction t using MT.ind with
 |h k n a c l ih=>
 intro u w hin hin2;obtain⟨k2,n2,a2,c2,l2⟩:=u;have Ed:=hdq hin;have HIN2:=hdq hin2;have GY:=hdq ih;have hlen:=hin.len;have OZ:=hin2.len;simp only[MT.parts]at hlen OZ;clear hin hin2 ih;simp only[MT.val,MT.kind,MT.num,MT.sl,MT.addr,MT.parts,MT.cap];have z0:w.heap.size<w.heap.size+1+1:=by omega
 have z1:w.heap.size<w.heap.size+1:=by omega
 by_cases hk:k=k2
 case neg=>
  have hk':(k != k2)=true:=by simpa using hk
  go_enter func174,ntmps174
  go_wp2;go_ret
  exact aI.no (fun h=>hk (MT.jL.1 h).1) (((Touch.refl [] w).alloc _).alloc _)
 subst hk;by_cases hn:n=n2
 case neg=>
  have hn':(n != n2)=true:=by simpa using hn
  go_enter func174,ntmps174
  go_wp2;go_ret
  exact aI.no (fun h=>hn (MT.jL.1 h).2.1) (((Touch.refl [] w).alloc _).alloc _)
 subst hn;by_cases hl:l.length=l2.length
 case neg=>
  have hl':((l.length:Int) != (l2.length:Int))=true:=by simp;omega
  go_enter func174,ntmps174
  go_wp2;go_ret
  refine aI.no (fun h=>hl ?_) (((Touch.refl [] w).alloc _).alloc _);have :=congrArg List.length (MT.jL.1 h).2.2;simpa using this
 have RG:=hdq hl;rw[<-hl];clear hl OZ;go_enter func174,ntmps174
 go_wp2_with fail
 refine ay ?_;intro w1 hw1;have BB:=hdq ((BD.nil' w).DZ hw1);simp only[nAq,cAq]at BB;generalize hb2:w.heap.size+1=b2 at BB|-;generalize hb1:w.heap.size=b1 at BB|-;clear hb2 hb1 hw1 z0 z1;go_loopw [5] (fun i wr=>∃(j:Nat),j<=l.length/\i= .int .i64 (j:Int)/\Hid ((l.take j).map MT.plain=(l2.take j).map MT.plain)/\
  Hid (BD [] w wr [box b1 58 #[k,n,.slice a l.length c],box b2 58 #[k,n,.slice a2 l.length c2]])) (fun i _=>l.length-(intOf i).toNat)
 case atStart=>exact⟨0,Nat.zero_le _,rfl,rfl,BB⟩
 case round=>
  obtain⟨j,hj,rfl,HD,HK⟩:=hrel;clear BB;obtain⟨x0,x1,x2,_,_,_,zx,_,_⟩:=HK.o.c3 0 rfl;obtain⟨y0,y1,y2,_,_,_,zy,_,_⟩:=HK.o.c3 1 rfl;by_cases hjl:j<l.length
  .have Cc:(j:Int)<(l.length:Int):=by omega
   have Ms:j<l2.length:=by have :=RG.o;omega
   have hj0:(0:Int)<=(j:Int):=by omega
   obtain⟨b,o,rfl,hb,p0,p1,p2⟩:=(Ed.o.aO HK.o.BN).row.cellAt hjl;obtain⟨b',o',rfl,hb',q0,q1,q2⟩:=(HIN2.o.aO HK.o.BN).row.cellAt Ms;have HU:=hdq ((Ed.o.aO HK.o.BN).part (List.getElem_mem hjl));have HV:=hdq ((HIN2.o.aO HK.o.BN).part (List.getElem_mem Ms));have HI:=hdq (GY.o _ (List.getElem_mem hjl));have Eh:=hdq (l6 hjl);have HTS2:=hdq (l6 Ms);have HGA:Hid (∀l':List MT,l.map MT.plain=l'.map MT.plain->∀h':j<l'.length,l[j].plain=l'[j].plain):=fun l' he h'=>by
    have :=congrArg (fun z=>z[j]?) he;simpa[List.getElem?_map,hjl,h']using this
   have HGB:=hdq (fun he=>HGA.o l2 he Ms);simp only[MT.parts]at p0 p1 p2 q0 q1 q2 HU HV HI;generalize l[j]=u at p0 p1 p2 HU HI Eh HGB;generalize l2[j]=v at q0 q1 q2 HV HTS2 HGB;simp only[MT.sl]at p2 q2;clear GY HGA;go_wp2_with fail
   go_region_held3 (fun w'=>w'.cell? ⟨b1,2,none⟩=some (.slice (some ⟨b,o,none⟩) l.length c)/\w'.cell? ⟨b2,2,none⟩=some (.slice (some ⟨b',o',none⟩) l.length c2)/\w'.cell? ⟨b,o+j*3,none⟩=some (.int .i64 u.kind)/\w'.cell? ⟨b,o+j*3+1,none⟩=some (.int .i64 u.num)/\w'.cell? ⟨b,o+j*3+2,none⟩=some (.slice u.addr u.parts.length u.cap)/\
     w'.cell? ⟨b',o'+j*3,none⟩=some (.int .i64 v.kind)/\w'.cell? ⟨b',o'+j*3+1,none⟩=some (.int .i64 v.num)/\w'.cell? ⟨b',o'+j*3+2,none⟩=some (.slice v.addr v.parts.length v.cap)) (go_keep)
    (first
    |(go_at_call 174;refine(HI.o v wr.drew (HU.o.aO (Touch.refl [] wr).drew) (HV.o.aO (Touch.refl [] wr).drew)).mono ?_;rintro e w3 ⟨cc,rfl,hcc,ht⟩;have BF:=hdq (HK.o.drew.touch ht);have D6:=hdq hcc;replace x2:=ht.cellOf x2;replace y2:=ht.cellOf y2;replace p0:=ht.cellOf p0;replace p1:=ht.cellOf p1;replace p2:=ht.cellOf p2;replace q0:=ht.cellOf q0;replace q1:=ht.cellOf q1;replace q2:=ht.cellOf q2;clear hcc ht))
   clear x0 x1 x2 y0 y1 y2 p0 p1 p2 q0 q1 q2;cases cc with
   |false=>
    go_wp2;go_ret
    refine aI.no (fun h=>?_) BF.o.BN;have :=D6.o.2 (HGB.o (MT.jL.1 h).2.2);cases this
   |true=>
    go_wp2;go_roundw
    case rel=>exact⟨j+1,by omega,by go_num,by unfold Hid;rw[Eh.o,HTS2.o,HD.o,D6.o.1 rfl],BF⟩
    case measure=>simp[intOf];omega
  .have Cc:¬(j:Int)<(l.length:Int):=by omega
   go_wp2;go_ret
   refine aI.yes ?_ HK.o.BN;have h:=HD.o;rw[List.take_of_length_le (by omega),List.take_of_length_le (by have :=RG.o;omega)]at h;exact MT.jL.2 ⟨rfl,rfl,h⟩
end Go.Proofs.YtegejdlglonflaaGreatDoor
