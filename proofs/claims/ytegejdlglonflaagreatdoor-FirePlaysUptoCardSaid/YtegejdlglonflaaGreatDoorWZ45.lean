/-
  Texts of FirePlays, laid together by program.
-/
import Derived.Test.YtegejdlglonflaaGreatDoorWZ41
namespace Go.Proofs.YtegejdlglonflaaGreatDoor
open Go.RowKit Go.Shelf Go.Proofs.Tryz
set_option maxRecDepth 100000
set_option maxHeartbeats 8000000
set_option linter.unusedVariables false
set_option linter.unusedSimpArgs false
structure M19 where
 ok:Bool
 B:Nat
 lk:Nat
 fd:Nat
 own:Int->pE
 x:WS
 ms:List MS
 r:RW
 L:PL
 n3:Nat
def agR(sc:aee)(P:World->Prop)(wb:Nat)(cl:Bool)(cd:Int)(b g lk fd B t N1 N2 N:Nat)(K:Nat->Nat->Nat->Nat->Prop)(n:Nat)(v:Nat->Value)(M:LG):Prop:=∃(own:Int->pE) (x:WS) (ms:List MS) (r:RW) (L:PL) (i n1 n2 n3:Nat),aeu P wb cl cd own x ms r n1 n2 n3/\K i n1 n2 n3/\i+n=N/\v t= .int .i64 (i:Int)/\∀T w0 w,BD T w0 w M.flatten->BD T w0 w ([x.ts++[r.th L],[box b 25 #[(N1:Int),(N2:Int),.slice sc.sa sc.kE.length sc.sc,.slice sc.aa sc.acts.length sc.ac]],[box g 47 #[True,(2000:Int),True,True,True,True]],[w9 lk fun _=>none],[w9 fd fun _=>none],[KE B x.wb r.v lk fd]]:LG).flatten
theorem made19{sc:aee}{N1 N2:Nat}{P:World->Prop}(cl:Bool)(cd:Int)(h1:N1<=4)(h2:N2<=4)(h3:sc.kE.length<=8)(hP:∀W,P W->bJ W/\sc.Mem W)(hbig:∀y∈sc.kE,∀b∈y.bases,b.Big):aai prog 8 #[.agg #[(N1:Int),(N2:Int),.slice sc.sa sc.kE.length sc.sc,.slice sc.aa sc.acts.length sc.ac]] [[aA P],[]] (xq (fun p:M19=>aeu P p.x.wb cl cd p.own p.x p.ms p.r N1 N2 p.n3/\p.n3<=8) (fun p=> .tuple #[p.B,p.ok]) fun p=>[p.x.ts++[p.r.th p.L],[w9 p.lk fun _=>none,w9 p.fd fun _=>none,KE p.B p.x.wb p.r.v p.lk p.fd]]):=by
 refine aai.go func8 ntmps8 ?_;refine go1 fun b=>?_;refine cr (new19 P) fun p _=>?_;obtain⟨wb,ga⟩:=p;refine go ?_;refine cr newR19 fun _ _=>?_;refine go1 fun g=>?_;refine mapN (ty:=0) (fun lk=>?_);refine mapN (ty:=0) (fun fd=>?_);refine go1 fun B=>?_;refine cr (ad9 0) fun _ _=>?_;refine go ?_;refine W.aeo [9,35,36,37,38,39,40,41,42,43,44,45,46,47,48,49,50,51,52,53,54] (agR sc P wb cl cd b g lk fd B 9 N1 N2 N1 fun i n1 n2 n3=>n1=i/\n2=0/\n3=0) N1 ⟨_,WS.empty wb ga 2000 P,[],rw0,[],0,0,0,0,mk_new (fun W hW=>(hP W hW).1),⟨rfl,rfl,rfl⟩,Nat.zero_add _,rfl,fun T w0 w hl=>KN [0,2,3,4,5,6] (ahE hl)⟩ ?_ (by kernel_rfl);rintro n v M a1 ⟨own,x,ms,r,L,i,n1,n2,n3,hmk,⟨rfl,rfl,rfl⟩,hi,hv,hM⟩ ha1;refine W.turn ?_ hM;simp only[adS,List.foldl,sAq,sZq,sSq,hv]at ha1;subst ha1;clear hv hM;obtain⟨Ug,hR2,hR3,_⟩:=hmk.ok (x':=x) (fun _ h=>h);by_cases hil:n1<N1
 .have e1:decide ((n1:Int)<(N1:Int))=true:=decide_eq_true (by omega)
  have e2:decide (n1<N1)=true:=decide_eq_true hil;have hwb:=hmk.wb;have hT:=fun t=>chanMG (x:=x) (t:=t) (fun W hW=>(hP W (hmk.P W hW)).1) (by rw[hmk.l1];omega);have hj:n1+(N1-n1)=N1/\n-1<n/\n1+1+(n-1)=N1:=by omega
  subst hwb;clear hi;refine go ?_;refine cr (hT _) fun y hy=>?_;obtain⟨v1,er1,x1⟩:=y;have hPx:x1.P=x.P:=by rcases hy with ⟨_,_,_,_,_,_,_,_,_,rfl⟩|⟨_,_,_,rfl⟩<;>rfl
  have hwx:x1.wb=x.wb:=by rcases hy with ⟨_,_,_,_,_,_,_,_,_,rfl⟩|⟨_,_,_,rfl⟩<;>rfl
  have hT3:=chanMR (x:=x1) (r:=r) (L:=L) (Ug.mono fun W hW=>hPx▸hW) ⟨hR2,hR3⟩;simp only[RV.val]at hT3;refine go ?_;refine cr hT3 fun z hz=>?_;obtain⟨⟨v2,er2⟩,r2,L2,Q2⟩:=z;refine go ?_;obtain⟨hz1,hz2,hz3⟩:=hz;obtain⟨own',hs'⟩:=hmk.chan (by omega) hy hz3 hz2;refine⟨n-1,hj.2.1,by kernel_rfl,own',_,_,r2,L2,n1+1,_,_,_,hs',⟨rfl,rfl,rfl⟩,hj.2.2,abt n1 (by omega),fun T w0 w hl=>by simpa[hwx]using hl⟩
 .have e1:decide ((n1:Int)<(N1:Int))=false:=decide_eq_false (by omega)
  have e2:decide (n1<N1)=false:=decide_eq_false hil;obtain rfl:n1=N1:=by omega
  clear hi hil;refine go ?_;refine W.aeo [10,55,56,57,58,59,60,61,62,63,64,65,66,67,68,69,70,71,72,73,74] (agR sc P wb cl cd b g lk fd B 10 n1 N2 N2 fun i m1 m2 m3=>m1=n1/\m2=i/\m3=0) N2 ⟨own,x,ms,r,L,0,_,_,_,hmk,⟨rfl,rfl,rfl⟩,Nat.zero_add _,rfl,fun T w0 w hl=>hl⟩ ?_ (by kernel_rfl);clear Ug hR2 hR3 hmk;rintro n v M a1 ⟨own,x,ms,r,L,i,n1,n2,n3,hmk,⟨rfl,rfl,rfl⟩,hi,hv,hM⟩ ha1;refine W.turn ?_ hM;simp only[adS,List.foldl,sAq,sZq,sSq,hv]at ha1;subst ha1;clear hv hM;obtain⟨Ug,hR2,hR3,_⟩:=hmk.ok (x':=x) (fun _ h=>h);by_cases hil:n2<N2
  .have e3:decide ((n2:Int)<(N2:Int))=true:=decide_eq_true (by omega)
   have e4:decide (n2<N2)=true:=decide_eq_true hil;have hwb:=hmk.wb;have hT:=fun t=>condMG (x:=x) (t:=t) (by rw[hmk.l2];omega);have hj:n2+(N2-n2)=N2/\n-1<n/\n2+1+(n-1)=N2:=by omega
   subst hwb;clear hi;refine go ?_;refine cr (hT _) fun y hy=>?_;obtain⟨v1,er1,x1⟩:=y;have hPx:x1.P=x.P:=by rcases hy with ⟨_,_,_,_,_,_,_,rfl⟩|⟨_,_,_,rfl⟩<;>rfl
   have hwx:x1.wb=x.wb:=by rcases hy with ⟨_,_,_,_,_,_,_,rfl⟩|⟨_,_,_,rfl⟩<;>rfl
   have hT3:=condMR (x:=x1) (r:=r) (L:=L) (Ug.mono fun W hW=>hPx▸hW) ⟨hR2,hR3⟩;simp only[RV.val]at hT3;refine go ?_;refine cr hT3 fun z hz=>?_;obtain⟨⟨v2,er2⟩,r2,L2,Q2⟩:=z;refine go ?_;obtain⟨hz1,hz2,hz3⟩:=hz;obtain⟨own',hs'⟩:=hmk.cond (by omega) hy hz3 hz2;exact⟨n-1,hj.2.1,by kernel_rfl,own',_,_,r2,L2,n2+1,_,_,_,hs',⟨rfl,rfl,rfl⟩,hj.2.2,abt n2 (by omega),fun T w0 w hl=>by simpa[hwx]using hl⟩
  .have e3:decide ((n2:Int)<(N2:Int))=false:=decide_eq_false (by omega)
   have e4:decide (n2<N2)=false:=decide_eq_false hil;obtain rfl:n2=N2:=by omega
   clear hi hil;refine go ?_;refine W.aeo [11,12,13,14,15,16,75,76,77,78,79,80,81,82,83,84,85,86,87,88,89,90,91,92,93,94,95,96,97,98,99,100,101,102,103,104,105,106,107,108,109,110,111,112,113,114,115,116,117,118,119,120,121,122,123,124,125,126,127,128,129,130] (agR sc P wb cl cd b g lk fd B 11 n1 n2 sc.kE.length fun i m1 m2 m3=>m1=n1/\m2=n2/\m3<=i) sc.kE.length ⟨own,x,ms,r,L,0,_,_,_,hmk,⟨rfl,rfl,Nat.le_refl _⟩,Nat.zero_add _,rfl,fun T w0 w hl=>hl⟩ ?_ (by kernel_rfl);clear Ug hR2 hR3 hmk;rintro n v M a1 ⟨own,x,ms,r,L,i,n1,n2,n3,hmk,⟨rfl,rfl,hn3⟩,hi,hv,hM⟩ ha1;refine W.turn ?_ hM;simp only[adS,List.foldl,sAq,sZq,sSq,hv]at ha1;subst ha1;clear hv hM;by_cases hil:i<sc.kE.length
   .have e5:decide ((i:Int)<(sc.kE.length:Int))=true:=decide_eq_true (by omega)
    have e6:decide (i<sc.kE.length)=true:=decide_eq_true hil;have hwb:=hmk.wb;subst hwb;have hMx:∀W,x.P W->sc.Mem W:=fun W hW=>(hP W (hmk.P W hW)).2;have hel:∀W,x.P W->Qk W sc.sa (i*2) sc.kE[i].cells:=fun W hW=>Sy (f:=afc.cells) (fun _=>rfl) rfl (hMx W hW).rs i hil;refine W.know (p:=∃bb oo,sc.sa=some ⟨bb,oo,none⟩) (fun T w0 w hl=>by obtain⟨b',o',hb',_⟩:=hel w (hl.still 2 rfl);exact⟨b',o',hb'⟩) ?_;rintro⟨bb,oo,hba⟩;have hA:∀W,x.P W->iJ W sc.kE[i].ba sc.kE[i].bases none []:=fun W hW=>⟨(hMx W hW).rb _ (List.getElem_mem hil),gX _ _ _ _⟩;have hBg:=hbig _ (List.getElem_mem hil);have hT:=fun t=>ahK (x:=x) (t:=t) (th:=sc.kE[i].th) (bc:=sc.kE[i].bc) hA (by rw[hmk.l3];omega);have k1:abv (x.ts++[r.th L]) bb (oo+i*2) (.int .i64 sc.kE[i].th):=adL hel hba 0 rfl;have k2:abv (x.ts++[r.th L]) bb (oo+i*2+1) (.slice sc.kE[i].ba sc.kE[i].bases.length sc.kE[i].bc):=adL hel hba 1 rfl;have hj:(0:Int)<=(i:Int)/\(i:Int)<(sc.kE.length:Int):=by omega
    obtain⟨j1,j2⟩:=hj;have hj:n-1<n/\i+1+(n-1)=sc.kE.length:=by omega
    clear hi;refine go ?_;refine W.rgd ?_;repeat (refine' rgk ?_;rotate_left)
    refine rgz 0 ?_ ?_;refine go ?_;refine cr (hT _) fun y hy=>?_;obtain⟨v1,er1,x1⟩:=y;dsimp only at hy;have hPx:∀W,x1.P W->x.P W:=by rcases hy with ⟨_,_,_,rfl⟩|⟨_,_,_,_,rfl⟩|⟨_,_,_,_,s',a,c,_,rfl⟩<;>first |exact fun _ h=>h|exact fun _ h=>h.1
    have hwx:x1.wb=x.wb:=by rcases hy with ⟨_,_,_,rfl⟩|⟨_,_,_,_,rfl⟩|⟨_,_,_,_,s',a,c,_,rfl⟩<;>rfl
    obtain⟨Ug,hR2,hR3,hR4⟩:=hmk.ok (x':=x1) hPx;have hT3:=ahN (x:=x1) (r:=r) (L:=L) Ug ⟨hR2,hR3⟩ (by omega) sc.kE[i].th sc.kE[i].ba sc.kE[i].bases sc.kE[i].bc (fun W hW=>hA W (hPx W hW)) hBg;simp only[RV.val]at hT3;have q1:abv (x1.ts++[r.th L]) bb (oo+i*2) (.int .i64 sc.kE[i].th):=adL (fun W hW=>hel W (hPx W hW)) hba 0 rfl;have q2:abv (x1.ts++[r.th L]) bb (oo+i*2+1) (.slice sc.kE[i].ba sc.kE[i].bases.length sc.kE[i].bc):=adL (fun W hW=>hel W (hPx W hW)) hba 1 rfl;refine go ?_;refine W.rgd ?_;repeat (refine' rgk ?_;rotate_left)
    refine rgz 0 ?_ ?_;refine go ?_;refine cr hT3 fun z hz=>?_;obtain⟨⟨v2,er2⟩,r2,L2,Q2⟩:=z;obtain⟨hz1,hz2,hz3⟩:=hz;dsimp only at hz1 hz2 hz3;obtain⟨he,own',ms',m,hm,hs'⟩:=hmk.begin hA hy hz3 hz2;subst he;by_cases he0:er1=0
    .subst he0
     refine go1 fun b14=>?_;refine cr (ad9 0) fun _ _=>?_;refine go ?_;exact⟨n-1,hj.1,by kernel_rfl,own',_,ms',r2,L2,i+1,_,_,_,hs',⟨rfl,rfl,by omega⟩,hj.2,abt i (by omega),fun T w0 w hl=>by have h:=KN [0,1,2,3,4,5] hl;simpa[gets,gat,hwx]using h⟩
    .have q3:(er1 != 0)=true:=by simpa using he0
     have q4:(er1==0)=false:=by simpa using he0
     have q5:decide (er1=0)=false:=decide_eq_false he0;have hs2:aeu P x1.wb cl cd own' {x1 with P:=Q2} ms' r2 n1 n2 m:=hwx▸hs';refine go1 fun b14=>?_;refine W.turn (M':=[({x1 with P:=Q2}:WS).ts++[r2.th L2],[w9 lk fun _=>none,w9 fd fun _=>none,KE B x1.wb r2.v lk fd]]) ?_ (fun T w0 w hl=>by have h:=KN [0,3,4,5] hl;simpa[gets,gat,hwx]using h);refine W.abg ?_;exact⟨⟨false,B,lk,fd,own',{x1 with P:=Q2},ms',r2,L2,m⟩,⟨hs2,by show m<=8;omega⟩,rfl,rfl⟩
    all_goals kernel_rfl
   .have e5:decide ((i:Int)<(sc.kE.length:Int))=false:=decide_eq_false (by omega)
    have e6:decide (i<sc.kE.length)=false:=decide_eq_false hil;have hw:=hmk.wb;subst hw;refine go ?_;refine W.turn (M':=[x.ts++[r.th L],[w9 lk fun _=>none,w9 fd fun _=>none,KE B x.wb r.v lk fd]]) ?_ (fun T w0 w hl=>by have h:=KN [0,3,4,5] hl;simpa[gets,gat]using h);refine W.abg ?_;exact⟨⟨true,B,lk,fd,own,x,ms,r,L,n3⟩,⟨hmk,by show n3<=8;omega⟩,rfl,rfl⟩
end Go.Proofs.YtegejdlglonflaaGreatDoor
