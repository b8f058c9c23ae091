/-
  Texts of FirePlays, laid together by program.
-/
import Derived.Test.YtegejdlglonflaaGreatDoorWZ21
namespace Go.Proofs.YtegejdlglonflaaGreatDoor
open Go.RowKit Go.Shelf Go.Proofs.Tryz
set_option maxRecDepth 100000
set_option maxHeartbeats 8000000
set_option linter.unusedVariables false
set_option linter.unusedSimpArgs false
def mQ(c:Nat)(ca f:Int)(q:Nat)(es:List ME)(P:World->Prop):List ai:=[box c 269 #[ca,f,q],aQ q es,aA P]
theorem Nq(T:List Nat)(w:World)(c:Nat)(ca f:Int)(q:Nat)(es:List ME)(P:World->Prop)(x:ME)(h:BD T w w (mQ c ca f q es P))(hP:∀W,P W->x.v.In W)(hes:es.length<=4096):
  Calls prog 118 #[c,x.val] w fun e w'=>∃(k:Nat) (err:Int) (ys:List ME),e= .returned (.int .i64 err)/\kK es.length [x.plain] k err/\ys.map ME.plain=[x.plain].take k/\BD T w w' (mQ c ca f q (es++ys) (fun W=>P W/\∀y∈ys,y.v.In W)):=by
 have HP:=hdq hP;have BG:=hdq h;unfold mQ at BG;clear h hP;simp only[bB];go_enter func118,ntmps118
 go_wp2_with fail
 refine ah ?_;intro w1 hw1;have BB:=hdq (BG.o.DN hw1);simp only[nAq,cAq]at BB;generalize hb3:w.heap.size=b3 at BB|-;clear hw1 hb3 BG;refine(fA _ _ _ _ _ (BB.o.kS 0 rfl)).mono ?_;rintro e w' ⟨rfl,rfl⟩;obtain⟨d0,d1,d2,_,_,_,hl,_,_⟩:=BB.o.c3 0 rfl;obtain⟨x0,x1,x2,x3,x4,x5,x6,_,hl3,_,_⟩:=BB.o.c7 3 rfl;have HL2:=hdq (BB.o.alloc 65 #[x.sync,x.thread,x.branch,x.flag,x.v.kind,x.v.num,.slice x.v.addr x.v.parts.length x.v.cap]).drew;simp only[nAq,cAq]at HL2;have HPU:=hdq (HL2.o.JK (xs:=[x]) (a:=some ⟨w1.heap.size,0,none⟩) (cap:=1) 1 2 rfl rfl (by decide) (fun W hW=>⟨vG rfl (hW 4 _ (by decide) rfl),fun y hy=>by
  simp at hy;subst hy
  obtain⟨fz,_,hs⟩:=hW 2 (aA P) (by decide) rfl;exact HP.o W (hs W (fun _ _=>rfl))⟩) (by simp) hes)
 go_wp2_with fail
 go_region_held3 (fun w'=>w'.cell? ⟨c,2,none⟩=some (.pointer (some ⟨q,0,none⟩))/\w'.cell? ⟨b3,0,none⟩=some (.int .i64 x.sync)/\w'.cell? ⟨b3,1,none⟩=some (.int .i64 x.thread)/\w'.cell? ⟨b3,2,none⟩=some (.int .i64 x.branch)/\w'.cell? ⟨b3,3,none⟩=some (.int .i64 x.flag)/\w'.cell? ⟨b3,4,none⟩=some (.int .i64 x.v.kind)/\w'.cell? ⟨b3,5,none⟩=some (.int .i64 x.v.num)/\w'.cell? ⟨b3,6,none⟩=some (.slice x.v.addr x.v.parts.length x.v.cap)) (go_keep) (first
  |(go_at_call 212;refine HPU.o.mono ?_;rintro e w4 ⟨k,err,ys,rfl,hR,hp,hL⟩;have BH:=hdq hL;(simp only[sZq,sSq]at BH);have HR:=hdq hR;have HPY:=hdq hp;clear hL hR hp d0 d1 d2 hl x0 x1 x2 x3 x4 x5 x6 hl3;obtain⟨d0,d1,d2,_,_,_,hl,_,_⟩:=BH.o.c3 0 rfl;obtain⟨x0,x1,x2,x3,x4,x5,x6,_,hl3,_,_⟩:=BH.o.c7 3 rfl))
 go_wp2;go_ret
 exact⟨k,err,ys,rfl,HR.o,HPY.o,BH.o.sel [0,1,2] rfl (by decide)⟩
theorem Mk(T:List Nat)(w:World)(c:Nat)(ca f:Int)(q:Nat)(es:List ME)(P:World->Prop)(h:BD T w w (mQ c ca f q es P))(hes:es.length<=4096):
  Calls prog 80 #[c] w fun e w'=>∃(y:ME) (b:Bool),e= .returned (.tuple #[y.val,b])/\kF es 0 y b/\BD T w w' (mQ c ca f q (if b=true then es.eraseIdx 0 else es) P):=by
 refine(BD.cNext h 1 0 rfl rfl (by omega)).mono ?_;rintro e w' (⟨x,r,rfl,rfl,hL⟩|⟨rfl,rfl,hL⟩)
 .exact⟨x,true,rfl,.inl ⟨rfl,by omega,rfl⟩,hL⟩
 .exact⟨ME.zero,false,rfl,.inr ⟨rfl,by simp,rfl⟩,hL⟩
section
variable {T:List Nat} {w0 w:World}
theorem BD.vg{h0 h1 s:ai}{A Y B:List ai}(h:BD T w0 w ([h0,h1,s]++A++Y++B)):∃T',BD T' w w (Y++[s])/\∀w' Y' s',BD T' w w' (Y'++[s'])->BD T w0 w' ([h0,h1,s']++A++Y'++B):=by
 have e1:BD T w0 w (Y++[s]++(A++B++[h0,h1])):=by
  have g1:BD T w0 w ([]++([h0,h1,s]++A)++(Y++B)):=by simpa using h
  have g2:=g1.aB;have g3:BD T w0 w (Y++(B++[h0,h1])++([s]++A)):=by simpa using g2
  have g4:=g3.aB;have g5:BD T w0 w ((Y++[s]++A)++(B++[h0,h1])):=by simpa using g4
  simpa using g5
 obtain⟨T',hF,hb⟩:=e1.aN;refine⟨T',hF,fun w' Y' s' hL=>?_⟩;have k1:=hb w' (Y'++[s']) hL;have k2:BD T w0 w' (Y'++([s']++A)++(B++[h0,h1])):=by simpa using k1
 have k3:=k2.aB;have k4:BD T w0 w' ([]++(Y'++B)++([h0,h1,s']++A)):=by simpa using k3
 have k5:=k4.aB;simpa using k5
end
def MT.E8(v:MT):Prop:=v.kind=0/\v.num=0/\v.parts.length=0
theorem lu{p q:Prop}{w w0 w':World}{e:Ending}(h:aI p w e w')(hpq:p↔q)(ht:Touch [] w0 w):aI q w0 e w':=by
 obtain⟨c,he,hc,h2⟩:=h;exact⟨c,he,hc.trans hpq,ht.trans' h2⟩
theorem xO(v:MT)(w:World):Calls prog 301 #[v.val] w (aI v.E8 w):=by
 have HT:Hid (Touch [] w (w.alloc (.cells #[v.kind,v.num,.slice v.addr v.parts.length v.cap] 58))):=(Touch.refl [] w).alloc _;have z1:w.heap.size<w.heap.size+1:=by omega
 have HY:Hid (v.E8->aI v.E8 w (.returned (.bool true)) (w.alloc (.cells #[v.kind,v.num,.slice v.addr v.parts.length v.cap] 58))):=fun h=>⟨true,rfl,by simp[h],HT.o⟩;have HN:Hid (¬v.E8->aI v.E8 w (.returned (.bool false)) (w.alloc (.cells #[v.kind,v.num,.slice v.addr v.parts.length v.cap] 58))):=fun h=>⟨false,rfl,by simp[h],HT.o⟩;obtain⟨p,hp⟩:∃p,v.E8=p:=⟨_,rfl⟩;simp only[MT.val,MT.sl];by_cases h1:v.kind=0
 .by_cases h2:v.num=0
  .by_cases h3:v.parts.length=0
   .have HE:=hdq (HY.o ⟨h1,h2,h3⟩)
    clear HY HN HT;rw[h1,h2,h3]at HE|-;go_enter func301,ntmps301
    go_wp2;go_ret
    exact HE.o
   .have HE:=hdq (HN.o (fun h=>h3 h.2.2))
    have h3':((v.parts.length:Int)==0)=false:=by simp;exact fun h=>h3 (by simp[h])
    clear HY HN HT;rw[h1,h2]at HE|-;go_enter func301,ntmps301
    go_wp2;go_ret
    exact HE.o
  .have HE:=hdq (HN.o (fun h=>h2 h.2.1))
   clear HY HN HT;rw[h1]at HE|-;have h2':decide (v.num=0)=false:=decide_eq_false h2;go_enter func301,ntmps301
   go_wp2;go_ret
   exact HE.o
 .have HE:=hdq (HN.o (fun h=>h1 h.1))
  have h1':decide (v.kind=0)=false:=decide_eq_false h1;clear HY HN HT;go_enter func301,ntmps301
  go_wp2;go_ret
  exact HE.o
theorem J8(b:MB)(w:World)(p:Option Addr)(hb:b.v.In w):Calls prog 274 #[.pointer p,b.val] w (aI (b.n=0/\b.v.plain.Ok) w):=by
 have HC:Hid (∀W,Touch [] w W->Calls prog 208 #[.agg #[b.v.kind,b.v.num,.slice b.v.addr b.v.parts.length b.v.cap]] W fun e w'=>(∃z:Int,e= .returned (.int .i64 z)/\(z=0\/z=40)/\(z=0↔b.v.plain.Ok))/\Touch [] W w'):=fun W hW=>jH b.v W (hb.aO hW);simp only[MB.val];have z1:w.heap.size<w.heap.size+1:=by omega
 by_cases hn:b.n=0
 .rw[hn]
  go_enter func274,ntmps274
  go_wp2_with fail
  refine ah ?_;intro w1 hw1;have BB:=hdq ((BD.nil' w).DN hw1);clear hw1;refine(HC.o _ BB.o.BN).mono ?_;rintro e w2 ⟨⟨z,rfl,hz,hiff⟩,ht⟩;have HT2:=hdq (BB.o.BN.trans' ht);have HIF:=hdq hiff;clear ht BB HC hiff;rcases hz with rfl|rfl
  .go_wp2
   go_ret
   have hok:b.v.plain.Ok:=by simpa using HIF.o
   exact⟨true,rfl,by simp[hn,hok],HT2.o⟩
  .go_wp2
   go_ret
   have hok:¬b.v.plain.Ok:=by simpa using HIF.o
   exact⟨false,rfl,by simp[hn,hok],HT2.o⟩
 .have h1':decide (b.n=0)=false:=decide_eq_false hn
  have HE:=hdq (show aI (b.n=0/\b.v.plain.Ok) w (.returned (.bool false)) _ from⟨false,rfl,by simp[hn],(Touch.refl [] w).alloc (.cells #[b.kind,b.n,b.v.kind,b.v.num,.slice b.v.addr b.v.parts.length b.v.cap,.slice b.wa b.wraps.length b.wc,.slice b.na b.aT.length b.nc] 114)⟩);clear HC;go_enter func274,ntmps274
  go_wp2;go_ret
  exact HE.o
theorem NU(b:MB)(w:World)(p:Option Addr)(hb:b.v.In w):Calls prog 275 #[.pointer p,b.val] w (aI (b.n=0/\b.v.E8) w):=by
 have HC:Hid (∀W,Touch [] w W->Calls prog 301 #[.agg #[b.v.kind,b.v.num,.slice b.v.addr b.v.parts.length b.v.cap]] W (aI b.v.E8 W)):=fun W hW=>xO b.v W;simp only[MB.val];have z1:w.heap.size<w.heap.size+1:=by omega
 by_cases hn:b.n=0
 .rw[hn]
  go_enter func275,ntmps275
  go_wp2_with fail
  refine ah ?_;intro w1 hw1;have BB:=hdq ((BD.nil' w).DN hw1);clear hw1;refine(HC.o _ BB.o.BN).mono ?_;rintro e w2 ⟨c,rfl,hc,ht⟩;have HT2:=hdq (BB.o.BN.trans' ht);have HIF:=hdq hc;clear ht BB HC hc;go_wp2;go_ret
  exact⟨c,rfl,by simp[hn,HIF.o],HT2.o⟩
 .have h1':decide (b.n=0)=false:=decide_eq_false hn
  have HE:=hdq (show aI (b.n=0/\b.v.E8) w (.returned (.bool false)) _ from⟨false,rfl,by simp[hn],(Touch.refl [] w).alloc (.cells #[b.kind,b.n,b.v.kind,b.v.num,.slice b.v.addr b.v.parts.length b.v.cap,.slice b.wa b.wraps.length b.wc,.slice b.na b.aT.length b.nc] 114)⟩);clear HC;go_enter func275,ntmps275
  go_wp2;go_ret
  exact HE.o
theorem ajj{w:World}{u:MT}(hb:u.In w):aai prog 208 #[.agg #[u.kind,u.num,.slice u.addr u.parts.length u.cap]] [[aA (Gi w)]] (xq (fun z:Int=>(z=0\/z=40)/\(z=0↔u.plain.Ok)) (fun z=> .int .i64 z) fun _=>[[aA (Gi w)]]):=
 aa1 (fun W ho=>jH u W (hb.keep (fun k hk=>ho k (hb.lt k hk)))) fun e ⟨z,he,h1,h2⟩=>⟨z,⟨h1,h2⟩,he⟩
theorem aiF(u:MT):aai prog 301 #[.agg #[u.kind,u.num,.slice u.addr u.parts.length u.cap]] [] (xq (fun c:Bool=>c=true↔u.E8) (fun c=> .bool c) fun _=>[]):=fun T w hl=>
 (xO u w).mono fun e w' ⟨c,he,hc,ht⟩=>⟨[],rfl,⟨c,hc,he,rfl⟩,hl.touch ht⟩
theorem Mr(b:MB)(w:World)(wb:Nat)(a1:Option Addr)(n1 c1:Nat)(hb:b.v.In w)(hw:w.cell? ⟨wb,1,none⟩=some (.slice a1 n1 c1)):Calls prog 272 #[wb,b.val] w (aI ((0<=b.n/\b.n<(n1:Int))/\b.v.plain.Ok) w):=afC (by
 have hC:=ajj hb;have hl:=aia hw;simp only[MB.val];by_cases h0:0<=b.n
 case neg=>
  have d0:decide (0<=b.n)=false:=decide_eq_false h0;refine aai.go func272 ntmps272 ?_;refine go1 fun _=>?_;refine W.rgd ?_;repeat (refine' rgk ?_;rotate_left)
  refine rgz 0 ?_ ?_;refine go ?_;refine W.abg ?_;exact⟨false,by simp[h0],rfl,rfl⟩
  kernel_rfl
 have d0:decide (0<=b.n)=true:=decide_eq_true h0;by_cases h1:b.n<(n1:Int)
 case neg=>
  have d1:decide (b.n<(n1:Int))=false:=decide_eq_false h1;refine aai.go func272 ntmps272 ?_;refine go1 fun _=>?_;refine W.rgd ?_;repeat (refine' rgk ?_;rotate_left)
  refine rgz 0 ?_ ?_;refine go ?_;refine W.abg ?_;exact⟨false,by simp[h1],rfl,rfl⟩
  kernel_rfl
 have d1:decide (b.n<(n1:Int))=true:=decide_eq_true h1;refine aai.go func272 ntmps272 ?_;refine go1 fun _=>?_;refine W.rgd ?_;repeat (refine' rgk ?_;rotate_left)
 refine rgz 0 ?_ ?_;refine go ?_;refine cr hC fun z hz=>?_;obtain⟨rfl|rfl,hz⟩:=hz
 .refine go ?_
  refine W.abg ?_;exact⟨true,by simpa[h0,h1]using hz,rfl,rfl⟩
 .refine go ?_
  refine W.abg ?_;exact⟨false,by simpa[h0,h1]using hz,rfl,rfl⟩
 kernel_rfl)
theorem yw(b:MB)(w:World)(wb:Nat)(a1:Option Addr)(n1 c1:Nat)(hb:b.v.In w)(hw:w.cell? ⟨wb,1,none⟩=some (.slice a1 n1 c1)):Calls prog 273 #[wb,b.val] w (aI ((0<=b.n/\b.n<(n1:Int))/\b.v.E8) w):=afC (by
 have hC:=aiF b.v;have hl:=aia hw;simp only[MB.val];by_cases h0:0<=b.n
 case neg=>
  have d0:decide (0<=b.n)=false:=decide_eq_false h0;refine aai.go func273 ntmps273 ?_;refine go1 fun _=>?_;refine W.rgd ?_;repeat (refine' rgk ?_;rotate_left)
  refine rgz 0 ?_ ?_;refine go ?_;refine W.abg ?_;exact⟨false,by simp[h0],rfl,rfl⟩
  kernel_rfl
 have d0:decide (0<=b.n)=true:=decide_eq_true h0;by_cases h1:b.n<(n1:Int)
 case neg=>
  have d1:decide (b.n<(n1:Int))=false:=decide_eq_false h1;refine aai.go func273 ntmps273 ?_;refine go1 fun _=>?_;refine W.rgd ?_;repeat (refine' rgk ?_;rotate_left)
  refine rgz 0 ?_ ?_;refine go ?_;refine W.abg ?_;exact⟨false,by simp[h1],rfl,rfl⟩
  kernel_rfl
 have d1:decide (b.n<(n1:Int))=true:=decide_eq_true h1;refine aai.go func273 ntmps273 ?_;refine go1 fun _=>?_;refine W.rgd ?_;repeat (refine' rgk ?_;rotate_left)
 refine rgz 0 ?_ ?_;refine go ?_;refine cr hC fun c hc=>?_;refine go ?_;refine W.abg ?_;exact⟨c,by simpa[h0,h1]using hc,rfl,rfl⟩
 kernel_rfl)
theorem MH(b:MB)(w:World)(wb:Nat)(a1:Option Addr)(n1 c1:Nat)(hb:b.v.In w)(hw:w.cell? ⟨wb,2,none⟩=some (.slice a1 n1 c1)):Calls prog 276 #[wb,b.val] w (aI ((0<=b.n/\b.n<(n1:Int))/\b.v.E8) w):=afC (by
 have hC:=aiF b.v;have hl:=aia hw;simp only[MB.val];by_cases h0:0<=b.n
 case neg=>
  have d0:decide (0<=b.n)=false:=decide_eq_false h0;refine aai.go func276 ntmps276 ?_;refine go1 fun _=>?_;refine W.rgd ?_;repeat (refine' rgk ?_;rotate_left)
  refine rgz 0 ?_ ?_;refine go ?_;refine W.abg ?_;exact⟨false,by simp[h0],rfl,rfl⟩
  kernel_rfl
 have d0:decide (0<=b.n)=true:=decide_eq_true h0;by_cases h1:b.n<(n1:Int)
 case neg=>
  have d1:decide (b.n<(n1:Int))=false:=decide_eq_false h1;refine aai.go func276 ntmps276 ?_;refine go1 fun _=>?_;refine W.rgd ?_;repeat (refine' rgk ?_;rotate_left)
  refine rgz 0 ?_ ?_;refine go ?_;refine W.abg ?_;exact⟨false,by simp[h1],rfl,rfl⟩
  kernel_rfl
 have d1:decide (b.n<(n1:Int))=true:=decide_eq_true h1;refine aai.go func276 ntmps276 ?_;refine go1 fun _=>?_;refine W.rgd ?_;repeat (refine' rgk ?_;rotate_left)
 refine rgz 0 ?_ ?_;refine go ?_;refine cr hC fun c hc=>?_;refine go ?_;refine W.abg ?_;exact⟨c,by simpa[h0,h1]using hc,rfl,rfl⟩
 kernel_rfl)
end Go.Proofs.YtegejdlglonflaaGreatDoor
