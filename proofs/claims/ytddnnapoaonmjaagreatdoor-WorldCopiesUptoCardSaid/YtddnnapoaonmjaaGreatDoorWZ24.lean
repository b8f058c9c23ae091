/-
  Texts of WorldCopies, laid together by program.
-/
import Derived.Test.YtddnnapoaonmjaaGreatDoorWZ23
namespace Go.Proofs.YtddnnapoaonmjaaGreatDoor
open Go.RowKit Go.Shelf Go.Proofs.Tryz
set_option maxRecDepth 100000
set_option maxHeartbeats 8000000
set_option linter.unusedVariables false
set_option linter.unusedSimpArgs false
def dP.of(k:Int)(m:MS)(br:Int)(v:MT):dP:=⟨k,m.thread,br,m.flag,v.kind,v.num,v.addr,v.parts.length,v.cap⟩
def jo(x:WS)(ms:List MS)(k br:Int)(v:dP)(er:Int)(x':WS):Prop:=
 (¬(0<=k/\k<(ms.length:Int))/\er=4/\v=dP.zero/\x'=x)\/∃(n:Nat) (hn:n<ms.length),k=(n:Int)/\
  ((¬(0<=br/\br<(ms[n].bases.length:Int))/\er=2/\v=dP.zero/\x'=x)\/
   ∃(j:Nat) (hj:j<ms[n].bases.length) (v':MT),br=(j:Int)/\er=0/\v'.plain=ms[n].bases[j].v.plain/\v=dP.of k ms[n] br v'/\x'=x.knows (fun W=>v'.In W/\v'.nodes<=256))
def eZ(x:WS)(k br:Int)(b2 b3 b4:Nat):List ai:=[wB x b2,kB b3 k,kB b4 br]
theorem BD.eZ{T:List Nat}{w0 w:World}{x:WS}{m:List ai}{k br:Int}{b2 b3 b4:Nat}{r:List ai}(h:BD T w0 w (m++(Proofs.YtddnnapoaonmjaaGreatDoor.eZ x k br b2 b3 b4++r))):
  (w.cell? ⟨b2,0,none⟩=some (.pointer (some ⟨x.wb,0,none⟩))/\w.cell? ⟨b3,0,none⟩=some (.int .i64 k)/\w.cell? ⟨b4,0,none⟩=some (.int .i64 br))/\b2<w.heap.size/\b3<w.heap.size/\b4<w.heap.size:=by
 have h5:=h.box m.length (b:=b2) (t:=25) (cs:=#[.pointer (some ⟨x.wb,0,none⟩)]) (by simp[Proofs.YtddnnapoaonmjaaGreatDoor.eZ,wB]);have h6:=h.box (m.length+1) (b:=b3) (t:=3) (cs:=#[.int .i64 k]) (by simp[Proofs.YtddnnapoaonmjaaGreatDoor.eZ,kB]);have h7:=h.box (m.length+2) (b:=b4) (t:=3) (cs:=#[.int .i64 br]) (by simp[Proofs.YtddnnapoaonmjaaGreatDoor.eZ,kB]);exact⟨⟨h5.cell 0,h6.cell 0,h7.cell 0⟩,h5.lt,h6.lt,h7.lt⟩
def AO(T:List Nat)(w:World)(x:WS)(ms:List MS)(k br:Int)(b2 b3 b4:Nat)(en:Ending)(w':World):Prop:=∃(v:dP) (er:Int) (x':WS),jo x ms k br v er x'/\((er=0/\en= .returned v.val)\/(v=dP.zero/\en= .panicked (aX er)))/\BD T w w' (x'.ts++eZ x k br b2 b3 b4)
def oG(b:Nat):ai:=box b 45 #[(),(),True]
def rz(b:Nat)(v:MT):ai:=box b 45 #[v.kind,v.num,.slice v.addr v.parts.length v.cap]
theorem IG(T:List Nat)(w:World)(x:WS)(ms:List MS)(k br:Int)(b2 b3 b4:Nat)(h:BD T w w (x.ts++eZ x k br b2 b3 b4))(hms:x.sys=ms.map MS.raw)(hin:∀W,x.P W->∀m∈ms,m.In W):
  Calls prog 136 #[b2,b3,b4] w (AO T w x ms k br b2 b3 b4):=by
 have BG:=hdq h;have HMS:=hdq hms;have Ed:=hdq hin;have hlen:x.sys.length=ms.length:=by rw[hms];simp
 obtain⟨⟨p5,p6,p7⟩,z5,z6,z7⟩:=BD.eZ (r:=[]) (by simpa only[List.append_nil]using BG.o);go_enter func136,ntmps136
 go_wp2_with fail
 refine ah ?_;intro w1 hw1;have BB:Hid (BD T w w1 (x.ts++(eZ x k br b2 b3 b4++[dJ w.heap.size]))):=by
  have h1:=BG.o.DN hw1;rw[List.append_assoc]at h1;exact h1
 generalize hb5:w.heap.size=b5 at BB|-;by_cases hk:0<=k/\k<(x.sys.length:Int)
 .obtain⟨n,rfl⟩:=Int.eq_ofNat_of_zero_le hk.1
  have hnk:n<x.sys.length:=by omega
  have hnm:n<ms.length:=by omega
  obtain⟨g3,hg3,hx⟩:=BB.o.dU n hnk;have HC:=hdq (BB.o.nC n hnk g3 hg3);have HG:=hdq hg3;refine HC.o.mono ?_;rintro e w2 ⟨rfl,ht⟩;have HL2:=hdq (BB.o.touch ht);obtain⟨⟨p5,p6,p7⟩,z5,z6,z7⟩:=BD.eZ HL2.o;obtain⟨m,hm⟩:∃m,ms[n]=m:=⟨_,rfl⟩;have HA:Hid (∀(y:WS) W r,y.sys=x.sys->y.a3=x.a3->BD T w W (y.ts++r)->∀q,q<11->W.cell? ⟨g3,n*11+q,none⟩=m.raw.cells[q]?):=fun y W r hy1 hy3 hL q hq=>hm▸hL.Kt (hy1.trans HMS.o) n hnm g3 (hy3.trans HG.o) q hq;have HI:Hid (∀W,x.P W->m.In W):=fun W hW=>hm▸Ed.o W hW _ (List.getElem_mem hnm);have HE2:Hid (¬(0<=br/\br<(m.bases.length:Int))->jo x ms (n:Int) br dP.zero 2 x):=fun hno=> .inr ⟨n,hnm,rfl,.inl ⟨hm▸hno,rfl,rfl,rfl⟩⟩;have HE0:Hid (∀(j:Nat) (hj:j<m.bases.length) (v':MT),br=(j:Int)->v'.plain=m.bases[j].v.plain->jo x ms (n:Int) br (dP.of (n:Int) m br v') 0 (x.knows (fun W=>v'.In W/\v'.nodes<=256))):=fun j hj v' hb hv=> .inr ⟨n,hnm,rfl,.inr ⟨j,hm▸hj,v',hb,rfl,by subst hm;exact hv,by subst hm;rfl,rfl⟩⟩;have f1:w2.cell? ⟨g3,n*11+1,none⟩=some (.slice m.ba m.bases.length m.bc):=HA.o x w2 _ rfl rfl HL2.o 1 (by omega);have zg:g3<w2.heap.size:=World.block_lt_of_cell? _ _ f1;by_cases hc1:0<=br
  .by_cases hc2:br<(m.bases.length:Int)
   .skip
    go_wp2_with fail
    go_quiet ((go_at_call 80;exact nW (require_ok _ _)))
    refine ax (Q:=Exit.then _ _) ?_;intro w3 hw3;have BF:=hdq ((HL2.o.drewN _).toW hw3);obtain⟨j,rfl⟩:=Int.eq_ofNat_of_zero_le hc1;have hj:j<m.bases.length:=by omega
    obtain⟨⟨p5,p6,p7⟩,z5,z6,z7⟩:=BD.eZ BF.o;have HB:Hid (∀W,x.P W->∃b o,m.ba=some ⟨b,o,none⟩/\b<W.heap.size/\∀q,q<7->W.cell? ⟨b,o+j*7+q,none⟩=m.bases[j].cells[q]?):=fun W hW=>aG.at (f:=MB.cells) (fun _=>rfl) (HI.o W hW).2.1.1 j hj;have HIU:Hid (∀W,x.P W->m.bases[j].v.In W/\m.bases[j].v.nodes<=256):=fun W hW=>((HI.o W hW).2.1.2 _ (List.getElem_mem hj)).1;have HE:=hdq (fun v'=>HE0.o j hj v' rfl);generalize m.bases[j]=u at HB HIU HE;obtain⟨bb,oo,hba,_,_⟩:=HB.o _ (BF.o.still 2 rfl);have FD:=hdq hba;have HB2:Hid (∀W,x.P W->bb<W.heap.size/\W.cell? ⟨bb,oo+j*7+2,none⟩=some (.int .i64 u.v.kind)/\W.cell? ⟨bb,oo+j*7+3,none⟩=some (.int .i64 u.v.num)/\W.cell? ⟨bb,oo+j*7+4,none⟩=some (.slice u.v.addr u.v.parts.length u.v.cap)):=fun W hW=>by
     obtain⟨b',o',hb',hlt,hc⟩:=HB.o W hW;rw[FD.o]at hb';injection hb' with hb'
     injection hb' with h1 h2
     subst h1 h2;exact⟨hlt,hc 2 (by omega),hc 3 (by omega),hc 4 (by omega)⟩
    have HS:Hid (∀(y:WS) W r,y.sys=x.sys->y.a3=x.a3->(∀W,y.P W->x.P W)->BD T w W (y.ts++(eZ x (n:Int) (j:Int) b2 b3 b4++r))->(fun w'=>w'.cell? ⟨b4,0,none⟩=some (.int .i64 (j:Int))/\w'.cell? ⟨g3,n*11+1,none⟩=some (.slice m.ba m.bases.length m.bc)/\w'.cell? ⟨bb,oo+j*7+2,none⟩=some (.int .i64 u.v.kind)/\w'.cell? ⟨bb,oo+j*7+3,none⟩=some (.int .i64 u.v.num)/\w'.cell? ⟨bb,oo+j*7+4,none⟩=some (.slice u.v.addr u.v.parts.length u.v.cap)) W):=fun y W r h1 h2 h3 hL=>⟨(BD.eZ hL).1.2.2,HA.o y W _ h1 h2 hL 1 (by omega),(HB2.o W (h3 W (hL.still 2 rfl))).2⟩;have LU:Hid (∀W,Touch [] w3 W->Calls prog 133 #[u.v.val] W fun e w'=>∃t':MT,e= .returned t'.val/\t'.plain=u.v.plain/\BD [] W w' [aA fun W=>t'.In W/\t'.nodes<=256]):=fun W hW=>have hp:=HIU.o _ ((BF.o.touch hW).still 2 rfl);kr u.v W hp.1 hp.2;have f1:w3.cell? ⟨g3,n*11+1,none⟩=some (.slice m.ba m.bases.length m.bc):=HA.o x w3 _ rfl rfl BF.o 1 (by omega);obtain⟨zb,y2,y3,y4⟩:=HB2.o _ (BF.o.still 2 rfl);rw[hba]at f1;have BZ:=hdq (Touch.refl [] w3).drew;have hj0:(0:Int)<=(j:Int):=by omega
    have hj1:(j:Int)<(m.bases.length:Int):=by omega
    go_wp2_with fail
    rw[FD.o]at HS;refine wp_region_held_drew (S:=fun w'=>w'.cell? ⟨b4,0,none⟩=some (.int .i64 (j:Int))/\w'.cell? ⟨g3,n*11+1,none⟩=some (.slice (some ⟨bb,oo,none⟩) m.bases.length m.bc)/\w'.cell? ⟨bb,oo+j*7+2,none⟩=some (.int .i64 u.v.kind)/\w'.cell? ⟨bb,oo+j*7+3,none⟩=some (.int .i64 u.v.num)/\w'.cell? ⟨bb,oo+j*7+4,none⟩=some (.slice u.v.addr u.v.parts.length u.v.cap)) (by kernel_rfl) ?_ (fun hHeld=>?_)
    .exact HS.o x _ _ rfl rfl (fun _ h=>h) BF.o.drew
    refine tkq 0 21 ?_;refine tkq 1 22 ?_;refine tkq 2 23 ?_;refine tkq 3 24 ?_;refine tkq 4 25 ?_;refine tkq 5 26 ?_;refine tkq 6 27 ?_;refine tkq 7 28 ?_;refine wpAnyH_ready (rs:=[8,9]) (by kernel_rfl) (by simp) ?_;refine AllReadyH.cons rfl (fun K hK=>?_) (AllReadyH.cons rfl (fun K hK=>?_) AllReadyH.nil)
    .clear hHeld
     go_simp;refine(LU.o _ BZ.o).mono ?_;rintro en w4 ⟨v',rfl,hp,hL⟩;have BH:=hdq (BF.o.drew.uM hL);have HE4:=hdq (HE.o v' hp);simp only[MT.val,MT.sl];go_simp;refine hK.o _ _ (HS.o (x.knows (fun W=>v'.In W/\v'.nodes<=256)) w4 _ rfl rfl (fun W h=>h.1) BH.o) (fun hHeld=>?_);(try simp only[Act.put,sAq,sZq,sSq])
     have Ca:Hid (BD T w (w4.alloc (.cells #[(),(),True] 45)) ((x.knows (fun W=>v'.In W/\v'.nodes<=256)).ts++(eZ x (n:Int) (j:Int) b2 b3 b4++[dJ b5,oG w4.heap.size]))):=by
      have h:=BH.o.alloc 45 #[(),(),True];exact hdq (by simpa[oG]using h)
     refine rdq 9 rfl fun K hK=>?_;go_simp;refine hK.o _ _ (HS.o (x.knows (fun W=>v'.In W/\v'.nodes<=256)) _ _ rfl rfl (fun W h=>h.1) Ca.o) (fun hHeld=>?_);(try simp only[Act.put,sAq,sZq,sSq])
     generalize hb6:w4.heap.size=b6 at Ca|-;generalize w4.alloc (.cells #[(),(),True] 45)=w5 at Ca hHeld|-;have Db:=hdq (BD.aB (a:=[]) (b:=(x.knows (fun W=>v'.In W/\v'.nodes<=256)).ts++eZ x (n:Int) (j:Int) b2 b3 b4) (c:=[dJ b5,oG b6]) (by simpa using Ca.o));simp only[nAq,cAq,dJ,oG]at Db;obtain⟨q0,q1,q2,G9,G6,G5,zq,_,_⟩:=Db.o.c3 1 rfl;have C8:=hdq (((Db.o.set 1 rfl 0 (.int .i64 v'.kind)).set 1 rfl 1 (.int .i64 v'.num)).set 1 rfl 2 (.slice v'.addr v'.parts.length v'.cap));simp only[sSq,sZq,sAq]at C8;have EX:Hid (BD T w (((w5.setCell ⟨b6,0,none⟩ (.int .i64 v'.kind)).setCell ⟨b6,1,none⟩ (.int .i64 v'.num)).setCell ⟨b6,2,none⟩ (.slice v'.addr v'.parts.length v'.cap)) ((x.knows (fun W=>v'.In W/\v'.nodes<=256)).ts++(eZ x (n:Int) (j:Int) b2 b3 b4++[dJ b5,rz b6 v']))):=by
      have h:=BD.aB (a:=[]) (b:=[_,_]) (c:=(x.knows (fun W=>v'.In W/\v'.nodes<=256)).ts++eZ x (n:Int) (j:Int) b2 b3 b4) C8.o;exact hdq (by simpa[dJ,rz]using h)
     refine rdq 10 rfl fun K hK=>?_;go_simp;refine hK.o _ _ (HS.o (x.knows (fun W=>v'.In W/\v'.nodes<=256)) _ _ rfl rfl (fun W h=>h.1) EX.o) (fun hHeld=>?_);(try simp only[Act.put,sAq,sZq,sSq])
     refine dxq EX fun w7 Rj=>?_;have HS4:Hid (∀W (e5:ai),BD T w W ((x.knows (fun W=>v'.In W/\v'.nodes<=256)).ts++(eZ x (n:Int) (j:Int) b2 b3 b4++[e5,rz b6 v']))->(fun w'=>w'.cell? ⟨b3,0,none⟩=some (.int .i64 (n:Int))/\w'.cell? ⟨b4,0,none⟩=some (.int .i64 (j:Int))/\w'.cell? ⟨g3,n*11,none⟩=some (.int .i64 m.thread)/\w'.cell? ⟨g3,n*11+3,none⟩=some (.int .i64 m.flag)/\w'.cell? ⟨b6,0,none⟩=some (.int .i64 v'.kind)/\w'.cell? ⟨b6,1,none⟩=some (.int .i64 v'.num)/\w'.cell? ⟨b6,2,none⟩=some (.slice v'.addr v'.parts.length v'.cap)) W):=fun W e5 hL=>by
      have hb:=hL.box ((x.knows (fun W=>v'.In W/\v'.nodes<=256)).ts.length+4) (b:=b6) (t:=45) (cs:=#[.int .i64 v'.kind,.int .i64 v'.num,.slice v'.addr v'.parts.length v'.cap]) (by simp[eZ,rz]);obtain⟨⟨_,h3,h4⟩,_⟩:=BD.eZ hL;exact⟨h3,h4,HA.o (x.knows (fun W=>v'.In W/\v'.nodes<=256)) W _ rfl rfl hL 0 (by omega),HA.o (x.knows (fun W=>v'.In W/\v'.nodes<=256)) W _ rfl rfl hL 3 (by omega),hb.cell 0,hb.cell 1,hb.cell 2⟩
     have hbe:∀W,(Instr.build 47 #[(0,.int .i64 (n:Int)),(1,.int .i64 m.thread),(2,.int .i64 (j:Int)),(3,.int .i64 m.flag),(4,.agg #[v'.kind,v'.num,.slice v'.addr v'.parts.length v'.cap])]).run prog W= .ok (.agg #[(n:Int),m.thread,(j:Int),m.flag,v'.kind,v'.num,.slice v'.addr v'.parts.length v'.cap]) W:=fun W=>run_build W 47 _ _ (by kernel_rfl);have hS0:=HS4.o _ _ Rj.o.drew;have Cf:=hdq (BD.aB (a:=[]) (b:=(x.knows (fun W=>v'.In W/\v'.nodes<=256)).ts++eZ x (n:Int) (j:Int) b2 b3 b4) (c:=[dJ b5,rz b6 v']) (by simpa using Rj.o));simp only[nAq,cAq,dJ]at Cf;obtain⟨q0,q1,q2,q3,q4,q5,q6,⟨G9,G6,G5,Ng,NG,L6,NH⟩,zq,_,_⟩:=Cf.o.c7 0 rfl;have FJ:=hdq (BD.drew (((((((Cf.o.set 0 rfl 0 (.int .i64 (n:Int))).set 0 rfl 1 (.int .i64 m.thread)).set 0 rfl 2 (.int .i64 (j:Int))).set 0 rfl 3 (.int .i64 m.flag)).set 0 rfl 4 (.int .i64 v'.kind)).set 0 rfl 5 (.int .i64 v'.num)).set 0 rfl 6 (.slice v'.addr v'.parts.length v'.cap)));simp only[sSq,sZq,sAq]at FJ;have DL:=hdq (BD.aB (a:=[]) (b:=[_,_]) (c:=(x.knows (fun W=>v'.In W/\v'.nodes<=256)).ts++eZ x (n:Int) (j:Int) b2 b3 b4) FJ.o);simp only[nAq,List.append_assoc]at DL;go_wp2_with fail
     refine wp_region_held_drew (S:=fun w'=>w'.cell? ⟨b3,0,none⟩=some (.int .i64 (n:Int))/\w'.cell? ⟨b4,0,none⟩=some (.int .i64 (j:Int))/\w'.cell? ⟨g3,n*11,none⟩=some (.int .i64 m.thread)/\w'.cell? ⟨g3,n*11+3,none⟩=some (.int .i64 m.flag)/\w'.cell? ⟨b6,0,none⟩=some (.int .i64 v'.kind)/\w'.cell? ⟨b6,1,none⟩=some (.int .i64 v'.num)/\w'.cell? ⟨b6,2,none⟩=some (.slice v'.addr v'.parts.length v'.cap)) (by kernel_rfl) ?_ (fun hHeld=>?_)
     .exact hS0
     refine tkq 0 30 ?_;refine tkq 1 31 ?_;refine tkq 2 32 ?_;refine tkq 3 33 ?_;refine tkq 4 34 ?_;refine tkq 5 35 ?_;refine tkq 6 36 ?_;refine tkq 7 37 ?_;refine tkq 8 38 ?_;refine tkq 9 39 ?_;refine tkq 10 40 ?_;refine tkq 11 41 ?_;refine rdq 12 rfl fun K hK=>?_;go_simp;refine hK.o _ _ (HS4.o _ _ DL.o) (fun hHeld=>?_);(try simp only[Act.put,sAq,sZq,sSq])
     refine dxq FJ fun w8 DI=>?_;obtain⟨q0,q1,q2,q3,q4,q5,q6,_,zq,_,_⟩:=DI.o.c7 0 rfl;go_wp2;refine bodyPost_ret (v:=(dP.of (n:Int) m (j:Int) v').val) (by simp[results,results136,go_sem,q0,q1,q2,q3,q4,q5,q6,dP.val,dP.of]) rfl ?_;have h14:=BD.aB (a:=[]) (b:=[_,_]) (c:=(x.knows (fun W=>v'.In W/\v'.nodes<=256)).ts++eZ x (n:Int) (j:Int) b2 b3 b4) DI.o;exact⟨_,0,_,HE4.o,.inl ⟨rfl,rfl⟩,h14.aF⟩
    .clear hHeld
     have BH:Hid (BD T w (w3.drew.alloc (.cells #[(),(),True] 45)) (x.ts++(eZ x (n:Int) (j:Int) b2 b3 b4++[dJ b5,oG w3.heap.size]))):=by
      have h:=BF.o.drew.alloc 45 #[(),(),True];exact hdq (by simpa[oG]using h)
     have HT2:=hdq (BZ.o.alloc (.cells #[(),(),True] 45));go_simp;refine hK.o _ _ (HS.o x _ _ rfl rfl (fun W h=>h) BH.o) (fun hHeld=>?_);(try simp only[Act.put,sAq,sZq,sSq])
     generalize hb6:w3.heap.size=b6 at BH|-;refine rdq 8 rfl fun K hK=>?_;go_simp;refine(LU.o _ HT2.o).mono ?_;rintro en w5 ⟨v',rfl,hp,hL⟩;have Ca:=hdq (BH.o.uM hL);have HE4:=hdq (HE.o v' hp);simp only[MT.val,MT.sl];go_simp;refine hK.o _ _ (HS.o (x.knows (fun W=>v'.In W/\v'.nodes<=256)) w5 _ rfl rfl (fun W h=>h.1) Ca.o) (fun hHeld=>?_);(try simp only[Act.put,sAq,sZq,sSq])
     have Db:=hdq (BD.aB (a:=[]) (b:=(x.knows (fun W=>v'.In W/\v'.nodes<=256)).ts++eZ x (n:Int) (j:Int) b2 b3 b4) (c:=[dJ b5,oG b6]) (by simpa using Ca.o));simp only[nAq,cAq,dJ,oG]at Db;obtain⟨q0,q1,q2,G9,G6,G5,zq,_,_⟩:=Db.o.c3 1 rfl;have C8:=hdq (((Db.o.set 1 rfl 0 (.int .i64 v'.kind)).set 1 rfl 1 (.int .i64 v'.num)).set 1 rfl 2 (.slice v'.addr v'.parts.length v'.cap));simp only[sSq,sZq,sAq]at C8;have EX:Hid (BD T w (((w5.setCell ⟨b6,0,none⟩ (.int .i64 v'.kind)).setCell ⟨b6,1,none⟩ (.int .i64 v'.num)).setCell ⟨b6,2,none⟩ (.slice v'.addr v'.parts.length v'.cap)) ((x.knows (fun W=>v'.In W/\v'.nodes<=256)).ts++(eZ x (n:Int) (j:Int) b2 b3 b4++[dJ b5,rz b6 v']))):=by
      have h:=BD.aB (a:=[]) (b:=[_,_]) (c:=(x.knows (fun W=>v'.In W/\v'.nodes<=256)).ts++eZ x (n:Int) (j:Int) b2 b3 b4) C8.o;exact hdq (by simpa[dJ,rz]using h)
     refine rdq 10 rfl fun K hK=>?_;go_simp;refine hK.o _ _ (HS.o (x.knows (fun W=>v'.In W/\v'.nodes<=256)) _ _ rfl rfl (fun W h=>h.1) EX.o) (fun hHeld=>?_);(try simp only[Act.put,sAq,sZq,sSq])
     refine dxq EX fun w7 Rj=>?_;have HS4:Hid (∀W (e5:ai),BD T w W ((x.knows (fun W=>v'.In W/\v'.nodes<=256)).ts++(eZ x (n:Int) (j:Int) b2 b3 b4++[e5,rz b6 v']))->(fun w'=>w'.cell? ⟨b3,0,none⟩=some (.int .i64 (n:Int))/\w'.cell? ⟨b4,0,none⟩=some (.int .i64 (j:Int))/\w'.cell? ⟨g3,n*11,none⟩=some (.int .i64 m.thread)/\w'.cell? ⟨g3,n*11+3,none⟩=some (.int .i64 m.flag)/\w'.cell? ⟨b6,0,none⟩=some (.int .i64 v'.kind)/\w'.cell? ⟨b6,1,none⟩=some (.int .i64 v'.num)/\w'.cell? ⟨b6,2,none⟩=some (.slice v'.addr v'.parts.length v'.cap)) W):=fun W e5 hL=>by
      have hb:=hL.box ((x.knows (fun W=>v'.In W/\v'.nodes<=256)).ts.length+4) (b:=b6) (t:=45) (cs:=#[.int .i64 v'.kind,.int .i64 v'.num,.slice v'.addr v'.parts.length v'.cap]) (by simp[eZ,rz]);obtain⟨⟨_,h3,h4⟩,_⟩:=BD.eZ hL;exact⟨h3,h4,HA.o (x.knows (fun W=>v'.In W/\v'.nodes<=256)) W _ rfl rfl hL 0 (by omega),HA.o (x.knows (fun W=>v'.In W/\v'.nodes<=256)) W _ rfl rfl hL 3 (by omega),hb.cell 0,hb.cell 1,hb.cell 2⟩
     have hbe:∀W,(Instr.build 47 #[(0,.int .i64 (n:Int)),(1,.int .i64 m.thread),(2,.int .i64 (j:Int)),(3,.int .i64 m.flag),(4,.agg #[v'.kind,v'.num,.slice v'.addr v'.parts.length v'.cap])]).run prog W= .ok (.agg #[(n:Int),m.thread,(j:Int),m.flag,v'.kind,v'.num,.slice v'.addr v'.parts.length v'.cap]) W:=fun W=>run_build W 47 _ _ (by kernel_rfl);have hS0:=HS4.o _ _ Rj.o.drew;have Cf:=hdq (BD.aB (a:=[]) (b:=(x.knows (fun W=>v'.In W/\v'.nodes<=256)).ts++eZ x (n:Int) (j:Int) b2 b3 b4) (c:=[dJ b5,rz b6 v']) (by simpa using Rj.o));simp only[nAq,cAq,dJ]at Cf;obtain⟨q0,q1,q2,q3,q4,q5,q6,⟨G9,G6,G5,Ng,NG,L6,NH⟩,zq,_,_⟩:=Cf.o.c7 0 rfl;have FJ:=hdq (BD.drew (((((((Cf.o.set 0 rfl 0 (.int .i64 (n:Int))).set 0 rfl 1 (.int .i64 m.thread)).set 0 rfl 2 (.int .i64 (j:Int))).set 0 rfl 3 (.int .i64 m.flag)).set 0 rfl 4 (.int .i64 v'.kind)).set 0 rfl 5 (.int .i64 v'.num)).set 0 rfl 6 (.slice v'.addr v'.parts.length v'.cap)));simp only[sSq,sZq,sAq]at FJ;have DL:=hdq (BD.aB (a:=[]) (b:=[_,_]) (c:=(x.knows (fun W=>v'.In W/\v'.nodes<=256)).ts++eZ x (n:Int) (j:Int) b2 b3 b4) FJ.o);simp only[nAq,List.append_assoc]at DL;go_wp2_with fail
     refine wp_region_held_drew (S:=fun w'=>w'.cell? ⟨b3,0,none⟩=some (.int .i64 (n:Int))/\w'.cell? ⟨b4,0,none⟩=some (.int .i64 (j:Int))/\w'.cell? ⟨g3,n*11,none⟩=some (.int .i64 m.thread)/\w'.cell? ⟨g3,n*11+3,none⟩=some (.int .i64 m.flag)/\w'.cell? ⟨b6,0,none⟩=some (.int .i64 v'.kind)/\w'.cell? ⟨b6,1,none⟩=some (.int .i64 v'.num)/\w'.cell? ⟨b6,2,none⟩=some (.slice v'.addr v'.parts.length v'.cap)) (by kernel_rfl) ?_ (fun hHeld=>?_)
     .exact hS0
     refine tkq 0 30 ?_;refine tkq 1 31 ?_;refine tkq 2 32 ?_;refine tkq 3 33 ?_;refine tkq 4 34 ?_;refine tkq 5 35 ?_;refine tkq 6 36 ?_;refine tkq 7 37 ?_;refine tkq 8 38 ?_;refine tkq 9 39 ?_;refine tkq 10 40 ?_;refine tkq 11 41 ?_;refine rdq 12 rfl fun K hK=>?_;go_simp;refine hK.o _ _ (HS4.o _ _ DL.o) (fun hHeld=>?_);(try simp only[Act.put,sAq,sZq,sSq])
     refine dxq FJ fun w8 DI=>?_;obtain⟨q0,q1,q2,q3,q4,q5,q6,_,zq,_,_⟩:=DI.o.c7 0 rfl;go_wp2;refine bodyPost_ret (v:=(dP.of (n:Int) m (j:Int) v').val) (by simp[results,results136,go_sem,q0,q1,q2,q3,q4,q5,q6,dP.val,dP.of]) rfl ?_;have h14:=BD.aB (a:=[]) (b:=[_,_]) (c:=(x.knows (fun W=>v'.In W/\v'.nodes<=256)).ts++eZ x (n:Int) (j:Int) b2 b3 b4) DI.o;exact⟨_,0,_,HE4.o,.inl ⟨rfl,rfl⟩,h14.aF⟩
   .have hd2:decide (br<(m.bases.length:Int))=false:=decide_eq_false hc2
    go_wp2_with fail
    refine hrq (S:=fun w'=>w'.cell? ⟨b4,0,none⟩=some (.int .i64 br)/\w'.cell? ⟨g3,n*11+1,none⟩=some (.slice m.ba m.bases.length m.bc)) fun hHeld=>?_;refine tkq 0 9 ?_;refine tkq 1 10 ?_;refine tkq 2 11 ?_;refine tkq 3 12 ?_;refine tkq 4 13 ?_;refine tkq 5 14 ?_;refine tkq 6 15 ?_;refine tkq 7 16 ?_;refine tkq 8 17 ?_;refine tkq 9 18 ?_;refine tkq 10 19 ?_;refine rdq 11 rfl fun K hK=>?_;go_simp;(try rw[hd2])
    refine(aY _ _).mono ?_;rintro en wq ⟨rfl,rfl⟩;dsimp only;exact⟨rfl,dP.zero,2,x,HE2.o (fun h=>(fun h=>absurd h.2 (by omega)) h),.inr ⟨rfl,rfl⟩,by have h2:=HL2.o.drew;rw[<-List.append_assoc]at h2;exact h2.aF⟩
  .have hd1:decide (0<=br)=false:=decide_eq_false hc1
   go_wp2_with fail
   refine hrq (S:=fun w'=>w'.cell? ⟨b4,0,none⟩=some (.int .i64 br)/\w'.cell? ⟨g3,n*11+1,none⟩=some (.slice m.ba m.bases.length m.bc)) fun hHeld=>?_;refine tkq 0 9 ?_;refine tkq 1 10 ?_;refine tkq 2 11 ?_;refine skq 3 12 ?_;refine skq 4 13 ?_;refine skq 5 14 ?_;refine skq 6 15 ?_;refine skq 7 16 ?_;refine skq 8 17 ?_;refine skq 9 18 ?_;refine tkq 10 19 ?_;refine rdq 11 rfl fun K hK=>?_;go_simp;(try rw[hd1])
   refine(aY _ _).mono ?_;rintro en wq ⟨rfl,rfl⟩;dsimp only;exact⟨rfl,dP.zero,2,x,HE2.o (fun h=>(fun h=>absurd h.1 (by omega)) h),.inr ⟨rfl,rfl⟩,by have h2:=HL2.o.drew;rw[<-List.append_assoc]at h2;exact h2.aF⟩
 .have HC:=hdq (BB.o.fE k hk)
  have HE:Hid (jo x ms k br dP.zero 4 x):= .inl ⟨by rw[<-hlen];exact hk,rfl,rfl,rfl⟩;refine HC.o.mono ?_;rintro e w2 ⟨rfl,ht⟩;dsimp only;have h2:=BB.o.touch ht;rw[<-List.append_assoc]at h2;exact⟨rfl,_,4,x,HE.o,.inr ⟨rfl,rfl⟩,h2.aF⟩
theorem zn(T:List Nat)(w:World)(x:WS)(ms:List MS)(k br:Int)(h:BD T w w x.ts)(hms:x.sys=ms.map MS.raw)(hin:∀W,x.P W->∀m∈ms,m.In W):
  Calls prog 43 #[x.wb,k,br] w fun e w'=>∃(v:dP) (er:Int) (x':WS),e= .returned (.tuple #[v.val,.int .i64 er])/\jo x ms k br v er x'/\BD T w w' x'.ts:=by
 have Ep:= @mfq;have BG:=hdq h;have HMS:=hdq hms;have Ed:=hdq hin;go_enter func43,ntmps43
 go_wp2_with fail
 refine ah ?_;intro w1 hw1;have BB:=hdq (((((BG.o.alloc 25 #[x.wb]).alloc 3 #[k]).alloc 3 #[br]).alloc 47 #[(),(),(),(),(),(),True]).toW hw1);simp only[World.size_alloc,List.append_assoc,cAq,nAq]at BB;generalize hb5:w.heap.size+1+1+1=b5 at BB|-;generalize hb4:w.heap.size+1+1=b4 at BB|-;generalize hb3:w.heap.size+1=b3 at BB|-;generalize hb2:w.heap.size=b2 at BB|-;refine(rG T w w1 _ _ _ (fun v er l'=>∃x',jo x ms k br v er x'/\l'=x'.ts++eZ x k br b2 b3 b4++[dJ b5]) BB.o (enters_of func136 (by kernel_rfl) rfl) (fun T' W hW=>?_)).mono ?_
 .obtain⟨T2,hF,hb⟩:=BD.aN (m:=x.ts++eZ x k br b2 b3 b4) (r:=[dJ b5]) (by rw[List.append_assoc];exact hW)
  refine(IG T2 W x ms k br b2 b3 b4 hF HMS.o Ed.o).mono ?_;rintro en w' ⟨v,er,x',hx,he,hL⟩;exact⟨v,er,_,he,⟨x',hx,rfl⟩,hb _ _ hL⟩
 rintro en w2 ⟨v,er,l',rfl,⟨x',hx,rfl⟩,hL⟩;have HX:=hdq hx;have BF:=hdq (BD.aB (a:=[]) (b:=x'.ts++eZ x k br b2 b3 b4) (c:=[dJ b5]) (by simpa using hL));simp only[nAq,cAq,dJ]at BF;unfold dP.val;dsimp only;obtain⟨q0,q1,q2,q3,q4,q5,q6,⟨G9,G6,G5,Ng,NG,L6,NH⟩,zq,_,_⟩:=BF.o.c7 0 rfl;have Ca:=hdq (((((((BF.o.set 0 rfl 0 (.int .i64 v.sync)).set 0 rfl 1 (.int .i64 v.thread)).set 0 rfl 2 (.int .i64 v.branch)).set 0 rfl 3 (.int .i64 v.flag)).set 0 rfl 4 (.int .i64 v.kind)).set 0 rfl 5 (.int .i64 v.num)).set 0 rfl 6 (.slice v.lA v.lN v.lC));simp only[sSq,sZq,sAq]at Ca;go_wp2;refine aP ?_;intro w5 DC;have C8:=hdq (Ca.o.toW DC);obtain⟨q0,q1,q2,q3,q4,q5,q6,_,zq,_,_⟩:=C8.o.c7 0 rfl;refine bodyPost_ret (v:= .tuple #[v.val,.int .i64 er]) (by simp[results,results43,go_sem,q0,q1,q2,q3,q4,q5,q6,dP.val]) rfl ?_;refine⟨v,er,x',rfl,HX.o,?_⟩;have hz:BD T w w5 (x'.ts++eZ x k br b2 b3 b4++[_]):=BD.aB (a:=[]) (b:=[_]) C8.o;exact BD.aF (BD.aF hz)
structure RV where
 ca:Option Addr
 cn:Nat
 cc:Nat
 most:Int
 la:Option Addr
 ln:Nat
 lc:Nat
 ha:Option Addr
 hn:Nat
 hc:Nat
 oa:Option Addr
 on:Nat
 oc:Nat
 sa:Option Addr
 sn:Nat
 sc:Nat
def RV.val(v:RV):Value:= .agg #[.slice v.ca v.cn v.cc,v.most,.slice v.la v.ln v.lc,.slice v.ha v.hn v.hc,.slice v.oa v.on v.oc,.slice v.sa v.sn v.sc]
theorem BD.c6{T:List Nat}{w0 w:World}{l:List ai}{b t:Nat}(h:BD T w0 w l)(i:Nat){x0 x1 x2 x3 x4 x5:Value}(hi:l[i]? =some (Proofs.YtddnnapoaonmjaaGreatDoor.box b t #[x0,x1,x2,x3,x4,x5])):w.cell? ⟨b,0,none⟩=some x0/\w.cell? ⟨b,1,none⟩=some x1/\w.cell? ⟨b,2,none⟩=some x2/\w.cell? ⟨b,3,none⟩=some x3/\w.cell? ⟨b,4,none⟩=some x4/\w.cell? ⟨b,5,none⟩=some x5/\(w.frozen? ⟨b,0,none⟩=false/\w.frozen? ⟨b,1,none⟩=false/\w.frozen? ⟨b,2,none⟩=false/\w.frozen? ⟨b,3,none⟩=false/\w.frozen? ⟨b,4,none⟩=false/\w.frozen? ⟨b,5,none⟩=false)/\b<w.heap.size/\b<w.heap.size+1/\b<w.heap.size+1+1:=by
 have hb:=h.box i hi;have hl:=hb.lt;exact⟨hb.cell 0,hb.cell 1,hb.cell 2,hb.cell 3,hb.cell 4,hb.cell 5,⟨hb.frozen 0,hb.frozen 1,hb.frozen 2,hb.frozen 3,hb.frozen 4,hb.frozen 5⟩,hl,ltq hl,ltq (ltq hl)⟩
theorem kY(v:RV)(w:World)(k:Int)(hk:¬(0<=k/\k<(v.hn:Int))):Calls prog 228 #[v.val,k] w fun e w'=>e= .returned (.bool false)/\Touch [] w w':=by
 refine abM ?_ w;simp only[RV.val];by_cases h:0<=k
 .have d1:decide (0<=k)=true:=decide_eq_true h
  have d2:decide (k<(v.hn:Int))=false:=decide_eq_false (by omega);refine aai.go func228 ntmps228 ?_;refine go1 fun _=>?_;refine W.abg ?_;exact⟨(),trivial,rfl,rfl⟩
 .have d1:decide (0<=k)=false:=decide_eq_false h
  refine aai.go func228 ntmps228 ?_;refine go1 fun _=>?_;refine W.abg ?_;exact⟨(),trivial,rfl,rfl⟩
theorem jF(v:RV)(w:World)(k:Int)(hk:¬(0<=k/\k<(v.on:Int))):Calls prog 236 #[v.val,k] w fun e w'=>e= .returned (.bool false)/\Touch [] w w':=by
 refine abM ?_ w;simp only[RV.val];by_cases h:0<=k
 .have d1:decide (0<=k)=true:=decide_eq_true h
  have d2:decide (k<(v.on:Int))=false:=decide_eq_false (by omega);refine aai.go func236 ntmps236 ?_;refine go1 fun _=>?_;refine W.abg ?_;exact⟨(),trivial,rfl,rfl⟩
 .have d1:decide (0<=k)=false:=decide_eq_false h
  refine aai.go func236 ntmps236 ?_;refine go1 fun _=>?_;refine W.abg ?_;exact⟨(),trivial,rfl,rfl⟩
theorem ic(v:RV)(w:World)(k:Int)(hk:¬(0<=k/\k<(v.sn:Int))):Calls prog 242 #[v.val,k] w fun e w'=>e= .returned (.bool false)/\Touch [] w w':=by
 refine abM ?_ w;simp only[RV.val];by_cases h:0<=k
 .have d1:decide (0<=k)=true:=decide_eq_true h
  have d2:decide (k<(v.sn:Int))=false:=decide_eq_false (by omega);refine aai.go func242 ntmps242 ?_;refine go1 fun _=>?_;refine W.abg ?_;exact⟨(),trivial,rfl,rfl⟩
 .have d1:decide (0<=k)=false:=decide_eq_false h
  refine aai.go func242 ntmps242 ?_;refine go1 fun _=>?_;refine W.abg ?_;exact⟨(),trivial,rfl,rfl⟩
theorem iQ(w:World)(s:Int):Calls prog 231 #[s] w fun e w'=>e= .returned (.int .i64 (bM s))/\w=w':=by
 by_cases h:s=1\/s=2
 .exact vS w s (by omega)
 .have h1:s≠1:=fun h1=>h (.inl h1)
  have h2:s≠2:=fun h2=>h (.inr h2);have ho:jV s= -1:=by unfold jV;rw[if_neg h1,if_neg h2]
  have hoo:bM s=0:=by unfold bM;rw[if_neg h1,if_neg h2]
  go_enter func231,ntmps231
  go_wp2_with fail
  refine(uH _ _).mono ?_;rintro e w' ⟨rfl,rfl⟩;rw[ho];go_wp2;go_ret
  exact⟨by rw[hoo];rfl,rfl⟩
theorem noq{G:Prop}(h:G:=by
  refine cr hC fun _ _=>?_;refine go ?_;refine W.abg ?_;exact⟨(),trivial,rfl,rfl⟩):G:=h
theorem IC(v:RV)(w:World)(k s:Int)(i:Int)(hs:¬(s=1\/s=2)):Calls prog 154 #[v.val,k,s,i] w fun e w'=>e= .returned (.tuple #[.agg #[(),(),(),(),(),(),True],false,(2:Int)])/\Touch [] w w':=by
 refine abM ?_ w;have hO:=abF fun W=>iQ W s;rw[show bM s=0 from by unfold bM;rw[if_neg (fun h=>hs (.inl h)),if_neg (fun h=>hs (.inr h))]]at hO;simp only[RV.val,bB];refine aai.go func154 ntmps154 ?_;refine go2 fun _ _=>?_;refine cr hO fun _ _=>?_;refine go ?_;refine W.abg ?_;exact⟨(),trivial,rfl,rfl⟩
theorem M0(v:RV)(w:World)(k s:Int)(i:Int)(hs:s=1\/s=2)(hk:¬(0<=k/\k<(v.hn:Int))):Calls prog 154 #[v.val,k,s,i] w fun e w'=>e= .returned (.tuple #[.agg #[(),(),(),(),(),(),True],false,(4:Int)])/\Touch [] w w':=by
 refine abM ?_ w;have hO:=abF fun W=>iQ W s;have ho:(bM s==0)=false:=by unfold bM;rcases hs with rfl|rfl<;>rfl
 generalize bM s=oo at hO ho;have hC:=aam fun W=>kY v W k hk;simp only[RV.val,bB,MT.val,MT.sl]at hC|-;refine aai.go func154 ntmps154 ?_;refine go2 fun _ _=>?_;refine cr hO fun _ _=>?_;refine go ?_;exact noq
theorem Jq(v:RV)(w:World)(k s:Int)(i:Int)(hs:¬(s=1\/s=2)):Calls prog 155 #[v.val,k,s,i] w fun e w'=>e= .returned (.tuple #[v.val,.agg #[(),(),(),(),(),(),True],false,(2:Int)])/\Touch [] w w':=by
 refine abM ?_ w;have hO:=abF fun W=>iQ W s;rw[show bM s=0 from by unfold bM;rw[if_neg (fun h=>hs (.inl h)),if_neg (fun h=>hs (.inr h))]]at hO;simp only[RV.val,bB];refine aai.go func155 ntmps155 ?_;refine go3 fun _ _ _=>?_;refine cr hO fun _ _=>?_;refine go ?_;refine W.abg ?_;exact⟨(),trivial,rfl,rfl⟩
theorem MW(v:RV)(w:World)(k s:Int)(i:Int)(hs:s=1\/s=2)(hk:¬(0<=k/\k<(v.hn:Int))):Calls prog 155 #[v.val,k,s,i] w fun e w'=>e= .returned (.tuple #[v.val,.agg #[(),(),(),(),(),(),True],false,(4:Int)])/\Touch [] w w':=by
 refine abM ?_ w;have hO:=abF fun W=>iQ W s;have ho:(bM s==0)=false:=by unfold bM;rcases hs with rfl|rfl<;>rfl
 generalize bM s=oo at hO ho;have hC:=aam fun W=>kY v W k hk;simp only[RV.val,bB,MT.val,MT.sl]at hC|-;refine aai.go func155 ntmps155 ?_;refine go3 fun _ _ _=>?_;refine cr hO fun _ _=>?_;refine go ?_;exact noq
theorem Ju(v:RV)(w:World)(k s:Int)(e:ME)(hs:¬(s=1\/s=2)):Calls prog 156 #[v.val,k,s,e.val] w fun e w'=>e= .returned (.tuple #[v.val,(2:Int)])/\Touch [] w w':=by
 refine abM ?_ w;have hO:=abF fun W=>iQ W s;rw[show bM s=0 from by unfold bM;rw[if_neg (fun h=>hs (.inl h)),if_neg (fun h=>hs (.inr h))]]at hO;simp only[RV.val,bB];refine aai.go func156 ntmps156 ?_;refine go3 fun _ _ _=>?_;refine cr hO fun _ _=>?_;refine go ?_;refine W.abg ?_;exact⟨(),trivial,rfl,rfl⟩
theorem NQ(v:RV)(w:World)(k s:Int)(e:ME)(hs:s=1\/s=2)(hk:¬(0<=k/\k<(v.hn:Int))):Calls prog 156 #[v.val,k,s,e.val] w fun e w'=>e= .returned (.tuple #[v.val,(4:Int)])/\Touch [] w w':=by
 refine abM ?_ w;have hO:=abF fun W=>iQ W s;have ho:(bM s==0)=false:=by unfold bM;rcases hs with rfl|rfl<;>rfl
 generalize bM s=oo at hO ho;have hC:=aam fun W=>kY v W k hk;simp only[RV.val,bB,MT.val,MT.sl]at hC|-;refine aai.go func156 ntmps156 ?_;refine go3 fun _ _ _=>?_;refine cr hO fun _ _=>?_;refine go ?_;exact noq
theorem Ol(v:RV)(w:World)(k:Int)(hk:¬(0<=k/\k<(v.hn:Int))):Calls prog 152 #[v.val,k] w fun e w'=>e= .returned (.tuple #[v.val,false,(4:Int)])/\Touch [] w w':=by
 refine abM ?_ w;have hC:=aam fun W=>kY v W k hk;simp only[RV.val,bB,MT.val,MT.sl]at hC|-;refine aai.go func152 ntmps152 ?_;refine go2 fun _ _=>?_;exact noq
theorem zL(v:RV)(w:World)(k:Int)(hk:¬(0<=k/\k<(v.hn:Int))):Calls prog 153 #[v.val,k] w fun e w'=>e= .returned (.tuple #[v.val,(4:Int)])/\Touch [] w w':=by
 refine abM ?_ w;have hC:=aam fun W=>kY v W k hk;simp only[RV.val,bB,MT.val,MT.sl]at hC|-;refine aai.go func153 ntmps153 ?_;refine go2 fun _ _=>?_;exact noq
theorem uT(v:RV)(w:World)(k:Int)(hk:¬(0<=k/\k<(v.on:Int))):Calls prog 157 #[v.val,k] w fun e w'=>e= .returned (.tuple #[v.val,false,(4:Int)])/\Touch [] w w':=by
 refine abM ?_ w;have hC:=aam fun W=>jF v W k hk;simp only[RV.val,bB,MT.val,MT.sl]at hC|-;refine aai.go func157 ntmps157 ?_;refine go2 fun _ _=>?_;exact noq
theorem rD(v:RV)(w:World)(k:Int)(hk:¬(0<=k/\k<(v.on:Int))):Calls prog 158 #[v.val,k] w fun e w'=>e= .returned (.tuple #[v.val,(4:Int)])/\Touch [] w w':=by
 refine abM ?_ w;have hC:=aam fun W=>jF v W k hk;simp only[RV.val,bB,MT.val,MT.sl]at hC|-;refine aai.go func158 ntmps158 ?_;refine go2 fun _ _=>?_;exact noq
theorem JO(v:RV)(w:World)(k:Int)(hk:¬(0<=k/\k<(v.on:Int))):Calls prog 159 #[v.val,k] w fun e w'=>e= .returned (.tuple #[v.val,false,(4:Int)])/\Touch [] w w':=by
 refine abM ?_ w;have hC:=aam fun W=>jF v W k hk;simp only[RV.val,bB,MT.val,MT.sl]at hC|-;refine aai.go func159 ntmps159 ?_;refine go2 fun _ _=>?_;exact noq
theorem Nn(v:RV)(w:World)(k:Int)(hk:¬(0<=k/\k<(v.on:Int))):Calls prog 160 #[v.val,k] w fun e w'=>e= .returned (.tuple #[v.val,(4:Int)])/\Touch [] w w':=by
 refine abM ?_ w;have hC:=aam fun W=>jF v W k hk;simp only[RV.val,bB,MT.val,MT.sl]at hC|-;refine aai.go func160 ntmps160 ?_;refine go2 fun _ _=>?_;exact noq
theorem OD(v:RV)(w:World)(k:Int)(e:ME)(hk:¬(0<=k/\k<(v.on:Int))):Calls prog 161 #[v.val,k,e.val] w fun e w'=>e= .returned (.tuple #[v.val,(4:Int)])/\Touch [] w w':=by
 refine abM ?_ w;have hC:=aam fun W=>jF v W k hk;simp only[RV.val,bB,MT.val,MT.sl]at hC|-;refine aai.go func161 ntmps161 ?_;refine go3 fun _ _ _=>?_;exact noq
theorem L8(v:RV)(w:World)(k:Int)(hk:¬(0<=k/\k<(v.on:Int))):Calls prog 162 #[v.val,k] w fun e w'=>e= .returned (.tuple #[v.val,.agg #[(),(),(),(),(),(),True],false,(4:Int)])/\Touch [] w w':=by
 refine abM ?_ w;have hC:=aam fun W=>jF v W k hk;simp only[RV.val,bB,MT.val,MT.sl]at hC|-;refine aai.go func162 ntmps162 ?_;refine go3 fun _ _ _=>?_;exact noq
theorem Ki(v:RV)(w:World)(k:Int)(hk:¬(0<=k/\k<(v.sn:Int))):Calls prog 163 #[v.val,k] w fun e w'=>e= .returned (.tuple #[v.val,(),(4:Int)])/\Touch [] w w':=by
 refine abM ?_ w;have hC:=aam fun W=>ic v W k hk;simp only[RV.val,bB,MT.val,MT.sl]at hC|-;refine aai.go func163 ntmps163 ?_;refine go2 fun _ _=>?_;exact noq
theorem NP(v:RV)(w:World)(k:Int)(hk:¬(0<=k/\k<(v.sn:Int))):Calls prog 165 #[v.val,k] w fun e w'=>e= .returned (.tuple #[v.val,(),(4:Int)])/\Touch [] w w':=by
 refine abM ?_ w;have hC:=aam fun W=>ic v W k hk;simp only[RV.val,bB,MT.val,MT.sl]at hC|-;refine aai.go func165 ntmps165 ?_;refine go2 fun _ _=>?_;exact noq
theorem zk(v:RV)(w:World)(k:Int)(hk:¬(0<=k/\k<(v.sn:Int))):Calls prog 167 #[v.val,k] w fun e w'=>e= .returned (.tuple #[v.val,(),(4:Int)])/\Touch [] w w':=by
 refine abM ?_ w;have hC:=aam fun W=>ic v W k hk;simp only[RV.val,bB,MT.val,MT.sl]at hC|-;refine aai.go func167 ntmps167 ?_;refine go2 fun _ _=>?_;exact noq
theorem wI(v:RV)(w:World)(k:Int)(hk:¬(0<=k/\k<(v.sn:Int))):Calls prog 164 #[v.val,k] w fun e w'=>e= .returned (.tuple #[v.val,(4:Int)])/\Touch [] w w':=by
 refine abM ?_ w;have hC:=aam fun W=>ic v W k hk;simp only[RV.val,bB,MT.val,MT.sl]at hC|-;refine aai.go func164 ntmps164 ?_;refine go2 fun _ _=>?_;exact noq
theorem Br(v:RV)(w:World)(k:Int)(hk:¬(0<=k/\k<(v.sn:Int))):Calls prog 166 #[v.val,k] w fun e w'=>e= .returned (.tuple #[v.val,(4:Int)])/\Touch [] w w':=by
 refine abM ?_ w;have hC:=aam fun W=>ic v W k hk;simp only[RV.val,bB,MT.val,MT.sl]at hC|-;refine aai.go func166 ntmps166 ?_;refine go2 fun _ _=>?_;exact noq
theorem Ap(v:RV)(w:World)(k:Int)(br:Int)(u:MT)(pt:Int)(hk:¬(0<=k/\k<(v.sn:Int))):Calls prog 168 #[v.val,k,br,u.val,pt] w fun e w'=>e= .returned (.tuple #[v.val,(4:Int)])/\Touch [] w w':=by
 refine abM ?_ w;have hC:=aam fun W=>ic v W k hk;simp only[RV.val,bB,MT.val,MT.sl]at hC|-;refine aai.go func168 ntmps168 ?_;refine go3 fun _ _ _=>?_;exact noq
theorem Ot(v:RV)(w:World)(k:Int)(hk:¬(0<=k/\k<(v.sn:Int))):Calls prog 170 #[v.val,k] w fun e w'=>e= .returned (.tuple #[v.val,(4:Int)])/\Touch [] w w':=by
 refine abM ?_ w;have hC:=aam fun W=>ic v W k hk;simp only[RV.val,bB,MT.val,MT.sl]at hC|-;refine aai.go func170 ntmps170 ?_;refine go2 fun _ _=>?_;exact noq
theorem JY(v:RV)(w:World)(k:Int)(br:Int)(hk:¬(0<=k/\k<(v.sn:Int))):Calls prog 171 #[v.val,k,br] w fun e w'=>e= .returned (.tuple #[.agg #[(),(),(),(),(),(),True],(4:Int)])/\Touch [] w w':=by
 refine abM ?_ w;have hC:=aam fun W=>ic v W k hk;simp only[RV.val,bB,MT.val,MT.sl]at hC|-;refine aai.go func171 ntmps171 ?_;refine go2 fun _ _=>?_;exact noq
theorem Nt(v:RV)(w:World)(k:Int)(hk:¬(0<=k/\k<(v.sn:Int))):Calls prog 169 #[v.val,k] w fun e w'=>e= .returned (.tuple #[v.val,false,(4:Int)])/\Touch [] w w':=by
 refine abM ?_ w;have hC:=aam fun W=>zk v W k hk;simp only[RV.val,bB,MT.val,MT.sl]at hC|-;refine aai.go func169 ntmps169 ?_;refine go2 fun _ _=>?_;refine cr hC fun _ _=>?_;refine go1 fun _=>?_;refine W.abg ?_;exact⟨(),trivial,rfl,rfl⟩
end Go.Proofs.YtddnnapoaonmjaaGreatDoor
