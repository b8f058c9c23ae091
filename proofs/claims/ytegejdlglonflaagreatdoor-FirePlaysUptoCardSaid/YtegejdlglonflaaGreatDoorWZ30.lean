/-
  Texts of FirePlays, laid together by program.
-/
import Derived.Test.YtegejdlglonflaaGreatDoorWZ29
namespace Go.Proofs.YtegejdlglonflaaGreatDoor
open Go.RowKit Go.Shelf Go.Proofs.Tryz
set_option maxRecDepth 100000
set_option maxHeartbeats 8000000
set_option linter.unusedVariables false
set_option linter.unusedSimpArgs false
def Does(f:FuncId)(args:Array Value)(m:List ai)(R:Ending->List ai->Prop):Prop:=∀T w,BD T w w m->Calls prog f args w fun e w'=>∃m',R e m'/\BD T w w' m'
theorem Does.mono{f:FuncId}{args:Array Value}{m:List ai}{R R':Ending->List ai->Prop}(h:Does f args m R)(hR:∀e m',R e m'->R' e m'):Does f args m R':=by
 intro T w hL;refine(h T w hL).mono ?_;rintro e w' ⟨m',h1,h2⟩;exact⟨m',hR _ _ h1,h2⟩
theorem bA{f:FuncId}{args:Array Value}{m:List ai}{E:Ending}(h:∀w,Calls prog f args w fun e w'=>e=E/\Touch [] w w'):Does f args m fun e m'=>e=E/\m'=m:=by
 intro T w hL;refine(h w).mono ?_;rintro e w' ⟨rfl,ht⟩;exact⟨m,⟨rfl,rfl⟩,hL.touch ht⟩
theorem BD.aC{T:List Nat}{w0 w:World}{m r:List ai}{b t:Nat}{cs:Array Value}(h:BD T w0 w (m++r))(i:Nat)(hi:r[i]? =some (Proofs.YtegejdlglonflaaGreatDoor.box b t cs)):Cg w b t cs:=
 h.box (m.length+i) (by rw[List.getElem?_append_right (by omega),Nat.add_sub_cancel_left];exact hi)
theorem BD.xq{T:List Nat}{w0 w:World}{m r:List ai}{b t:Nat}{cs:Array Value}{v:Value}(h:BD T w0 w (m++r))(i j:Nat)(hi:r[i]? =some (Proofs.YtegejdlglonflaaGreatDoor.box b t cs))(hv:cs[j]? =some v):w.cell? ⟨b,j,none⟩=some v:=((h.aC i hi).cell j).trans hv
theorem BD.front{T:List Nat}{w0 w:World}{m r:List ai}(h:BD T w0 w (m++r)):BD T w0 w m:=BD.aF h
theorem BD.put{T:List Nat}{w0 w:World}{l:List ai}(h:BD T w0 w l)(i:Nat){b t:Nat}{cs:Array Value}(hi:l[i]? =some (Proofs.YtegejdlglonflaaGreatDoor.box b t cs))(cs':Array Value):BD T w0 (w.setRow b cs') (l.set i (Proofs.YtegejdlglonflaaGreatDoor.box b t cs')):=by
 obtain⟨f,⟨hf,hb⟩,_,hs⟩:=h.step i hi;subst hf;refine hs _ _ [b] ⟨rfl,?_⟩ ⟨⟨rfl,rfl,rfl,by simp[World.setRow],fun k hk hn=>setRow_other w b k _ (fun e=>hn (by simp[e]))⟩,fun k hk=> .inl hk⟩;exact setRow_heap w b cs cs' t (0,0) hb
theorem KD:(prog.info? 185).map (fun i=>(i.zero,i.size,i.bytes))=some (some (.agg #[(),True,True]),3,56):=by kernel_rfl
theorem Kr:(prog.info? 38).map (fun i=>(i.zero,i.size,i.bytes))=some (some (.agg #[(),True]),2,32):=by kernel_rfl
theorem aG.iI{w:World}{a:Option Addr}{size n:Nat}{cs:List Value}(h:aG w a size n cs)(hl:cs.length=n*size)(hs:0<size):n=0\/∃b,a=some b/\∀j u,cs[j]? =some u->w.cell? (b.add j)=some u:=by
 by_cases h0:n=0
 .exact .inl h0
 .right
  obtain⟨b,o,rfl,hb,_⟩:=h.2 0 (by omega);refine⟨_,rfl,fun j u hu=>?_⟩;have hj:j<n*size:=by
   rcases Nat.lt_or_ge j (n*size)with h1|h1
   .exact h1
   .rw[List.getElem?_eq_none (by omega)]at hu;cases hu
  have hi:j / size<n:=(Nat.div_lt_iff_lt_mul hs).2 hj;obtain⟨b',o',hba,_,hc⟩:=h.2 (j / size) hi;injection hba with hba
  injection hba with g1 g2
  subst g1 g2;have h1:=hc (j % size) (Nat.mod_lt _ hs);have h2:j / size*size+j % size=j:=by rw[Nat.mul_comm];exact Nat.div_add_mod j size
  rw[h2,hu,Nat.add_assoc,h2]at h1;rw[Addr.add_lit];exact h1
theorem mg{w:World}{e size n:Nat}{v:Value}{xs:List Value}{a:Option Addr}{cap:Nat}(h:dZ w e size v n xs)(hv:v= .slice a n cap)(hs:0<size)(hn:n<=2000000):aG w a size n xs:=by
 by_cases h0:n=0
 .subst h0;exact⟨hn,fun i hi=>by omega⟩
 obtain⟨g,cap',cur,hv',hg,_⟩:=gD h (by omega);subst hv;injection hv' with h1 _ h3
 subst h1;refine⟨hn,fun i hi=>⟨g,0,rfl,hg.lt,fun j hj=>?_⟩⟩;have h4:(i+1)*size<=n*size:=Nat.mul_le_mul_right _ hi;have h5:(i+1)*size=i*size+size:=Nat.succ_mul i size;have hlt:i*size+j<xs.length:=by rw[h.1];omega
 rw[Nat.zero_add,eT h _ hlt,List.getElem?_eq_getElem hlt]
def gJ(k:Nat)(v v':RV):Prop:=
 v'.most=v.most/\(v'.ha,v'.hn,v'.hc)=(if k=0 then(v'.ha,v.hn+1,v'.hc)else(v.ha,v.hn,v.hc))/\(v'.oa,v'.on,v'.oc)=(if k=1 then(v'.oa,v.on+1,v'.oc)else(v.oa,v.on,v.oc))/\(v'.sa,v'.sn,v'.sc)=(if k=2 then(v'.sa,v.sn+1,v'.sc)else(v.sa,v.sn,v.sc))
theorem Wx(v:RV)(w:World)(hm:0<=v.most/\v.most<=65536)(hc:(v.cn:Int)<=v.most)(hf:v.most-(v.cn:Int)<1):Calls prog 43 #[v.val] w fun e w'=>e= .returned (.tuple #[v.val,(),(6:Int)])/\Touch [] w w':=by
 have HC:=hdq (fun W=>Vw v W hm hc hf);clear hm hc hf;unfold RV.val;go_enter func43,ntmps43
 go_wp2_with fail
 refine ah ?_;intro w1 hw1;have BB:=hdq ((BD.nil' w).DZ hw1);simp only[nAq,cAq]at BB;generalize hb2:w.heap.size+1=b2 at BB|-;generalize hb1:w.heap.size=b1 at BB|-;clear hw1 hb2 hb1;refine(HC.o _).mono ?_;rintro e w2 ⟨rfl,ht⟩;have HL2:=hdq (BB.o.touch ht);clear ht BB HC;go_upto_region 3 with fail
 refine ay ?_;intro w3 hw3;have BF:=hdq (HL2.o.DZ hw3);simp only[nAq,cAq]at BF;clear hw3 HL2;obtain⟨p0,p1,p2,p3,p4,p5,⟨f0,f1,f2,f3,f4,f5⟩,zp,CK,CO⟩:=BF.o.c6 0 rfl;obtain⟨q0,q1,q2,q3,q4,q5,⟨g0,g1,g2,g3,g4,g5⟩,zq,Fb,Fg⟩:=BF.o.c6 1 rfl;have n1:=BF.o.ne 0 1 rfl rfl (by decide);have n2:=Ne.symm n1;have HS:=hdq ((((((BF.o.set 1 rfl 0 (.slice v.ca v.cn v.cc)).set 1 rfl 1 (.int .i64 v.most)).set 1 rfl 2 (.slice v.la v.ln v.lc)).set 1 rfl 3 (.slice v.ha v.hn v.hc)).set 1 rfl 4 (.slice v.oa v.on v.oc)).set 1 rfl 5 (.slice v.sa v.sn v.sc));simp only[sSq,sZq,sAq]at HS;clear BF;go_wp2;refine aP ?_;intro w5 DC;have Ca:=hdq (HS.o.toW DC);clear DC HS p0 p1 p2 p3 p4 p5 f0 f1 f2 f3 f4 f5 zp CK CO q0 q1 q2 q3 q4 q5 g0 g1 g2 g3 g4 g5 zq Fb Fg n1 n2;obtain⟨q0,q1,q2,q3,q4,q5,_,_,_,_⟩:=Ca.o.c6 1 rfl;refine bodyPost_ret (v:= .tuple #[.agg #[.slice v.ca v.cn v.cc,v.most,.slice v.la v.ln v.lc,.slice v.ha v.hn v.hc,.slice v.oa v.on v.oc,.slice v.sa v.sn v.sc],(),(6:Int)]) (by simp[results,results43,go_sem,q0,q1,q2,q3,q4,q5]) rfl ?_;exact⟨rfl,Ca.o.BN⟩
theorem AB(v:RV)(w:World)(hm:0<=v.most/\v.most<=65536)(hc:(v.cn:Int)<=v.most)(hf:v.most-(v.cn:Int)<2):Calls prog 44 #[v.val] w fun e w'=>e= .returned (.tuple #[v.val,(),(6:Int)])/\Touch [] w w':=by
 have HC:=hdq (fun W=>xR v W hm hc hf);clear hm hc hf;unfold RV.val;go_enter func44,ntmps44
 go_wp2_with fail
 refine ah ?_;intro w1 hw1;have BB:=hdq ((BD.nil' w).DZ hw1);simp only[nAq,cAq]at BB;generalize hb2:w.heap.size+1=b2 at BB|-;generalize hb1:w.heap.size=b1 at BB|-;clear hw1 hb2 hb1;refine(HC.o _).mono ?_;rintro e w2 ⟨rfl,ht⟩;have HL2:=hdq (BB.o.touch ht);clear ht BB HC;go_upto_region 3 with fail
 refine ay ?_;intro w3 hw3;have BF:=hdq (HL2.o.DZ hw3);simp only[nAq,cAq]at BF;clear hw3 HL2;obtain⟨p0,p1,p2,p3,p4,p5,⟨f0,f1,f2,f3,f4,f5⟩,zp,CK,CO⟩:=BF.o.c6 0 rfl;obtain⟨q0,q1,q2,q3,q4,q5,⟨g0,g1,g2,g3,g4,g5⟩,zq,Fb,Fg⟩:=BF.o.c6 1 rfl;have n1:=BF.o.ne 0 1 rfl rfl (by decide);have n2:=Ne.symm n1;have HS:=hdq ((((((BF.o.set 1 rfl 0 (.slice v.ca v.cn v.cc)).set 1 rfl 1 (.int .i64 v.most)).set 1 rfl 2 (.slice v.la v.ln v.lc)).set 1 rfl 3 (.slice v.ha v.hn v.hc)).set 1 rfl 4 (.slice v.oa v.on v.oc)).set 1 rfl 5 (.slice v.sa v.sn v.sc));simp only[sSq,sZq,sAq]at HS;clear BF;go_wp2;refine aP ?_;intro w5 DC;have Ca:=hdq (HS.o.toW DC);clear DC HS p0 p1 p2 p3 p4 p5 f0 f1 f2 f3 f4 f5 zp CK CO q0 q1 q2 q3 q4 q5 g0 g1 g2 g3 g4 g5 zq Fb Fg n1 n2;obtain⟨q0,q1,q2,q3,q4,q5,_,_,_,_⟩:=Ca.o.c6 1 rfl;refine bodyPost_ret (v:= .tuple #[.agg #[.slice v.ca v.cn v.cc,v.most,.slice v.la v.ln v.lc,.slice v.ha v.hn v.hc,.slice v.oa v.on v.oc,.slice v.sa v.sn v.sc],(),(6:Int)]) (by simp[results,results44,go_sem,q0,q1,q2,q3,q4,q5]) rfl ?_;exact⟨rfl,Ca.o.BN⟩
theorem Aq(v:RV)(w:World)(th:Int)(ba:Option Addr)(bases:List MB)(bc:Nat)(ca:Option Addr)(conds:List Int)(cc:Nat)(hA:iJ w ba bases ca conds)(hbig:∀b∈bases,b.Big)(hright:¬nM v.hn v.on th bases conds):Calls prog 45 #[v.val,th,.slice ba bases.length bc,.slice ca conds.length cc] w fun e w'=>e= .returned (.tuple #[v.val,(),(2:Int)])/\Touch [] w w':=by
 have HR:=hdq (fun W (hW:Touch [] w W)=>zD v W th ba bases bc ca conds cc (by exact⟨⟨hA.1.1.aW hW,fun b hb=>(hA.1.2 b hb).aW hW⟩,hA.2.aW hW⟩) hbig);have HRO:=hdq hright;clear hA hbig hright;unfold RV.val at HR|-;go_enter func45,ntmps45
 go_wp2_with fail
 refine ah ?_;intro w1 hw1;have BB:=hdq ((BD.nil' w).DZ hw1);simp only[nAq,cAq]at BB;generalize hb2:w.heap.size+1=b2 at BB|-;generalize hb1:w.heap.size=b1 at BB|-;clear hw1 hb2 hb1;refine(HR.o _ BB.o.BN).mono ?_;rintro e w2 ⟨b,rfl,hb,ht⟩;obtain rfl:b=false:=by
  cases b
  .rfl
  .exact absurd (hb.1 rfl) HRO.o
 have HL2:=hdq (BB.o.touch ht);clear ht BB HR hb;obtain⟨p0,p1,p2,p3,p4,p5,⟨f0,f1,f2,f3,f4,f5⟩,zp,CK,CO⟩:=HL2.o.c6 0 rfl;obtain⟨q0,q1,q2,q3,q4,q5,⟨g0,g1,g2,g3,g4,g5⟩,zq,Fb,Fg⟩:=HL2.o.c6 1 rfl;have n1:=HL2.o.ne 0 1 rfl rfl (by decide);have n2:=Ne.symm n1;have HS:=hdq ((((((HL2.o.set 1 rfl 0 (.slice v.ca v.cn v.cc)).set 1 rfl 1 (.int .i64 v.most)).set 1 rfl 2 (.slice v.la v.ln v.lc)).set 1 rfl 3 (.slice v.ha v.hn v.hc)).set 1 rfl 4 (.slice v.oa v.on v.oc)).set 1 rfl 5 (.slice v.sa v.sn v.sc));simp only[sSq,sZq,sAq]at HS;clear HL2;go_wp2;refine aP ?_;intro w5 DC;have Ca:=hdq (HS.o.toW DC);clear DC HS p0 p1 p2 p3 p4 p5 f0 f1 f2 f3 f4 f5 zp CK CO q0 q1 q2 q3 q4 q5 g0 g1 g2 g3 g4 g5 zq Fb Fg n1 n2;obtain⟨q0,q1,q2,q3,q4,q5,_,_,_,_⟩:=Ca.o.c6 1 rfl;refine bodyPost_ret (v:= .tuple #[.agg #[.slice v.ca v.cn v.cc,v.most,.slice v.la v.ln v.lc,.slice v.ha v.hn v.hc,.slice v.oa v.on v.oc,.slice v.sa v.sn v.sc],(),(2:Int)]) (by simp[results,results45,go_sem,q0,q1,q2,q3,q4,q5]) rfl ?_;exact⟨rfl,Ca.o.BN⟩
theorem VJ(v:RV)(w:World)(th:Int)(ba:Option Addr)(bases:List MB)(bc:Nat)(ca:Option Addr)(conds:List Int)(cc:Nat)(hA:iJ w ba bases ca conds)(hbig:∀b∈bases,b.Big)(hright:nM v.hn v.on th bases conds)(hm:0<=v.most/\v.most<=65536)(hc:(v.cn:Int)<=v.most)(hf:v.most-(v.cn:Int)<1):Calls prog 45 #[v.val,th,.slice ba bases.length bc,.slice ca conds.length cc] w fun e w'=>e= .returned (.tuple #[v.val,(),(6:Int)])/\Touch [] w w':=by
 have HR:=hdq (fun W (hW:Touch [] w W)=>zD v W th ba bases bc ca conds cc (by exact⟨⟨hA.1.1.aW hW,fun b hb=>(hA.1.2 b hb).aW hW⟩,hA.2.aW hW⟩) hbig);have HRO:=hdq hright;have HC:=hdq (fun W=>Vy v W hm hc hf);clear hm hc hf;clear hA hbig hright;unfold RV.val at HR|-;go_enter func45,ntmps45
 go_wp2_with fail
 refine ah ?_;intro w1 hw1;have BB:=hdq ((BD.nil' w).DZ hw1);simp only[nAq,cAq]at BB;generalize hb2:w.heap.size+1=b2 at BB|-;generalize hb1:w.heap.size=b1 at BB|-;clear hw1 hb2 hb1;refine(HR.o _ BB.o.BN).mono ?_;rintro e w2 ⟨b,rfl,hb,ht⟩;obtain rfl:b=true:=by
  exact hb.2 HRO.o
 have HL2:=hdq (BB.o.touch ht);clear ht BB HR hb;obtain⟨p0,p1,p2,p3,p4,p5,⟨f0,f1,f2,f3,f4,f5⟩,zp,_,_⟩:=HL2.o.c6 0 rfl;go_wp2_with fail
 clear p0 p1 p2 p3 p4 p5 f0 f1 f2 f3 f4 f5 zp;refine(HC.o _).mono ?_;rintro e w3 ⟨rfl,ht⟩;have BF:=hdq (HL2.o.touch ht);clear ht HL2 HC;go_upto_region 5 with fail
 refine ay ?_;intro w4 hw4;have BH:=hdq (BF.o.DN hw4);simp only[nAq,cAq]at BH;clear hw4 BF;obtain⟨p0,p1,p2,p3,p4,p5,⟨f0,f1,f2,f3,f4,f5⟩,zp,CK,CO⟩:=BH.o.c6 0 rfl;obtain⟨q0,q1,q2,q3,q4,q5,⟨g0,g1,g2,g3,g4,g5⟩,zq,Fb,Fg⟩:=BH.o.c6 1 rfl;have n1:=BH.o.ne 0 1 rfl rfl (by decide);have n2:=Ne.symm n1;have HS:=hdq ((((((BH.o.set 1 rfl 0 (.slice v.ca v.cn v.cc)).set 1 rfl 1 (.int .i64 v.most)).set 1 rfl 2 (.slice v.la v.ln v.lc)).set 1 rfl 3 (.slice v.ha v.hn v.hc)).set 1 rfl 4 (.slice v.oa v.on v.oc)).set 1 rfl 5 (.slice v.sa v.sn v.sc));simp only[sSq,sZq,sAq]at HS;clear BH;go_wp2;refine aP ?_;intro w5 DC;have Ca:=hdq (HS.o.toW DC);clear DC HS p0 p1 p2 p3 p4 p5 f0 f1 f2 f3 f4 f5 zp CK CO q0 q1 q2 q3 q4 q5 g0 g1 g2 g3 g4 g5 zq Fb Fg n1 n2;obtain⟨q0,q1,q2,q3,q4,q5,_,_,_,_⟩:=Ca.o.c6 1 rfl;refine bodyPost_ret (v:= .tuple #[.agg #[.slice v.ca v.cn v.cc,v.most,.slice v.la v.ln v.lc,.slice v.ha v.hn v.hc,.slice v.oa v.on v.oc,.slice v.sa v.sn v.sc],(),(6:Int)]) (by simp[results,results45,go_sem,q0,q1,q2,q3,q4,q5]) rfl ?_;exact⟨rfl,Ca.o.BN⟩
end Go.Proofs.YtegejdlglonflaaGreatDoor
