/-
  Texts of FirePlays, laid together by program.
-/
import Derived.Test.YtegejdlglonflaaGreatDoorWZ23
import Derived.Test.YtegejdlglonflaaGreatDoorWZ25
namespace Go.Proofs.YtegejdlglonflaaGreatDoor
open Go.RowKit Go.Shelf Go.Proofs.Tryz
set_option maxRecDepth 100000
set_option maxHeartbeats 8000000
set_option linter.unusedVariables false
set_option linter.unusedSimpArgs false
theorem nW{P:Program}{f:FuncId}{args:Array Value}{w:World}{n:Nat}{v:Value}(h:Calls P f args (w.drewN n) fun e w'=>e= .returned v/\w.drewN n=w'):Calls P f args (w.drewN n) fun e w''=>e= .returned v/\∃m,w''=w.drewN m:=
 h.mono fun _ _ ⟨he,hm⟩=>⟨he,n,hm.symm⟩
def bL.qN(y:bL)(br:Int)(v:MT)(pt:Int):bL:={y with done:=true,branch:=br,kind:=v.kind,num:=v.num,lA:=v.addr,lN:=v.parts.length,lC:=v.cap,partner:=pt}
def gN(x:WS)(k br:Int)(v:MT)(pt:Int)(er:Int)(x':WS):Prop:=
 (¬(0<=k/\k<(x.sys.length:Int))/\er=4/\x'=x)\/∃(n:Nat) (hn:n<x.sys.length),k=(n:Int)/\
  ((¬((0<=br/\br<(x.sys[n].gm:Int))/\v.plain.Ok/\(-1<=pt/\pt<(x.sys.length:Int)))/\er=2/\x'=x)\/
  (((0<=br/\br<(x.sys[n].gm:Int))/\v.plain.Ok/\(-1<=pt/\pt<(x.sys.length:Int)))/\((x.sys[n].done=true/\er=160/\x'=x)\/
   (x.sys[n].done=false/\er=0/\∃v':MT,v'.plain=v.plain/\x'=(x.knows (fun W=>∀t∈[v'],t.In W)).eP n (x.sys[n].qN br v' pt)))))
def iq(x:WS)(k br:Int)(v:MT)(pt:Int)(b5 b6 b7 b8 b9:Nat):List ai:=[wB x b5,kB b6 k,kB b7 br,box b8 58 #[v.kind,v.num,.slice v.addr v.parts.length v.cap],kB b9 pt]
theorem BD.iq{T:List Nat}{w0 w:World}{x:WS}{m:List ai}{k br:Int}{v:MT}{pt:Int}{b5 b6 b7 b8 b9:Nat}{r:List ai}(h:BD T w0 w (m++(iq x k br v pt b5 b6 b7 b8 b9++r))):
  (w.cell? ⟨b5,0,none⟩=some (.pointer (some ⟨x.wb,0,none⟩))/\w.cell? ⟨b6,0,none⟩=some (.int .i64 k)/\w.cell? ⟨b7,0,none⟩=some (.int .i64 br)/\w.cell? ⟨b8,0,none⟩=some (.int .i64 v.kind)/\w.cell? ⟨b8,1,none⟩=some (.int .i64 v.num)/\w.cell? ⟨b8,2,none⟩=some (.slice v.addr v.parts.length v.cap)/\w.cell? ⟨b9,0,none⟩=some (.int .i64 pt))/\b5<w.heap.size/\b6<w.heap.size/\b7<w.heap.size/\b8<w.heap.size/\b9<w.heap.size:=by
 have h5:=h.box m.length (b:=b5) (t:=48) (cs:=#[.pointer (some ⟨x.wb,0,none⟩)]) (by simp[Proofs.YtegejdlglonflaaGreatDoor.iq,wB]);have h6:=h.box (m.length+1) (b:=b6) (t:=3) (cs:=#[.int .i64 k]) (by simp[Proofs.YtegejdlglonflaaGreatDoor.iq,kB]);have h7:=h.box (m.length+2) (b:=b7) (t:=3) (cs:=#[.int .i64 br]) (by simp[Proofs.YtegejdlglonflaaGreatDoor.iq,kB]);have h8:=h.box (m.length+3) (b:=b8) (t:=58) (cs:=#[.int .i64 v.kind,.int .i64 v.num,.slice v.addr v.parts.length v.cap]) (by simp[Proofs.YtegejdlglonflaaGreatDoor.iq]);have h9:=h.box (m.length+4) (b:=b9) (t:=3) (cs:=#[.int .i64 pt]) (by simp[Proofs.YtegejdlglonflaaGreatDoor.iq,kB]);exact⟨⟨h5.cell 0,h6.cell 0,h7.cell 0,h8.cell 0,h8.cell 1,h8.cell 2,h9.cell 0⟩,h5.lt,h6.lt,h7.lt,h8.lt,h9.lt⟩
theorem BD.comNe{T:List Nat}{w0 w:World}{x:WS}{k br:Int}{v:MT}{pt:Int}{b5 b6 b7 b8 b9 g:Nat}(h:BD T w0 w (x.ts++Proofs.YtegejdlglonflaaGreatDoor.iq x k br v pt b5 b6 b7 b8 b9))(hg:x.a3=some ⟨g,0,none⟩):b5≠g/\b7≠g/\b8≠g/\b9≠g:=by
 have hr:(x.ts++Proofs.YtegejdlglonflaaGreatDoor.iq x k br v pt b5 b6 b7 b8 b9)[5]? =some (aS 60 11 (.slice (some ⟨g,0,none⟩) x.sys.length x.c3) x.sys.length (aU x.sys)):=by rw[<-hg];rfl
 have hl:6<=x.ts.length:=by simp[WS.ts,WS.head]
 have h5:=h.ol 5 (x.ts.length) (b:=b5) (t:=48) (cs:=#[.pointer (some ⟨x.wb,0,none⟩)]) hr (by simp[Proofs.YtegejdlglonflaaGreatDoor.iq,wB]) (by omega);have h7:=h.ol 5 (x.ts.length+2) (b:=b7) (t:=3) (cs:=#[.int .i64 br]) hr (by simp[Proofs.YtegejdlglonflaaGreatDoor.iq,kB]) (by omega);have h8:=h.ol 5 (x.ts.length+3) (b:=b8) (t:=58) (cs:=#[.int .i64 v.kind,.int .i64 v.num,.slice v.addr v.parts.length v.cap]) hr (by simp[Proofs.YtegejdlglonflaaGreatDoor.iq]) (by omega);have h9:=h.ol 5 (x.ts.length+4) (b:=b9) (t:=3) (cs:=#[.int .i64 pt]) hr (by simp[Proofs.YtegejdlglonflaaGreatDoor.iq,kB]) (by omega);exact⟨Ne.symm h5,Ne.symm h7,Ne.symm h8,Ne.symm h9⟩
theorem BD.fV{T:List Nat}{w0 w:World}{x:WS}{r0:List ai}(h:BD T w0 w (x.ts++r0))(n:Nat)(hn:n<x.sys.length)(g:Nat)(hg:x.a3=some ⟨g,0,none⟩)(j:Nat)(hj:j<11)(u:Value)(y v':bL)(hy:x.sys[n]=y)(hv:y.cells.set j u=v'.cells):
  BD T w0 (w.setCell ⟨g,n*11+j,none⟩ u) ((x.eP n v').ts++r0):=h.wK n hn g hg j hj u v' (by rw[hy];exact hv)
theorem WS.dD(x:WS)(n:Nat)(a b:bL):(x.eP n a).eP n b=x.eP n b:=by simp[WS.eP]
theorem WS.eX(x:WS)(n:Nat)(hn:n<x.sys.length)(a:bL):(x.eP n a).sys[n]'(by simpa[WS.eP]using hn)=a:=by simp[WS.eP]
theorem BD.M8{T:List Nat}{w0 w:World}{x:WS}{r0:List ai}(h:BD T w0 w (x.ts++r0))(n:Nat)(hn:n<x.sys.length)(g:Nat)(hg:x.a3=some ⟨g,0,none⟩)(y:bL)(hy:x.sys[n]=y)(br:Int)(v:MT)(pt:Int):
  BD T w0 ((((((w.setCell ⟨g,n*11+5,none⟩ (.bool true)).setCell ⟨g,n*11+6,none⟩ (.int .i64 br)).setCell ⟨g,n*11+7,none⟩ (.int .i64 v.kind)).setCell ⟨g,n*11+8,none⟩ (.int .i64 v.num)).setCell ⟨g,n*11+9,none⟩ (.slice v.addr v.parts.length v.cap)).setCell ⟨g,n*11+10,none⟩ (.int .i64 pt)) ((x.eP n (y.qN br v pt)).ts++r0):=by
 have hl:∀a,n<(x.eP n a).sys.length:=fun a=>by simpa[WS.eP]using hn
 have h1:=h.fV n hn g hg 5 (by omega) (.bool true) y {y with done:=true} hy rfl;have h2:=h1.fV n (hl _) g hg 6 (by omega) (.int .i64 br) _ {y with done:=true,branch:=br} (x.eX n hn _) rfl;rw[WS.dD]at h2;have h3:=h2.fV n (hl _) g hg 7 (by omega) (.int .i64 v.kind) _ {y with done:=true,branch:=br,kind:=v.kind} (x.eX n hn _) rfl;rw[WS.dD]at h3;have h4:=h3.fV n (hl _) g hg 8 (by omega) (.int .i64 v.num) _ {y with done:=true,branch:=br,kind:=v.kind,num:=v.num} (x.eX n hn _) rfl;rw[WS.dD]at h4;have h5:=h4.fV n (hl _) g hg 9 (by omega) (.slice v.addr v.parts.length v.cap) _ {y with done:=true,branch:=br,kind:=v.kind,num:=v.num,lA:=v.addr,lN:=v.parts.length,lC:=v.cap} (x.eX n hn _) rfl;rw[WS.dD]at h5;have h6:=h5.fV n (hl _) g hg 10 (by omega) (.int .i64 pt) _ (y.qN br v pt) (x.eX n hn _) rfl;rw[WS.dD]at h6;exact h6
def wY(T:List Nat)(w:World)(x:WS)(k br:Int)(v:MT)(pt:Int)(b5 b6 b7 b8 b9:Nat)(en:Ending)(w':World):Prop:=∃er l' x',gN x k br v pt er x'/\l'=x'.ts++iq x k br v pt b5 b6 b7 b8 b9/\l5 T w er l' en w'
theorem Bo(T:List Nat)(w:World)(x:WS)(k br:Int)(v:MT)(pt:Int)(b5 b6 b7 b8 b9:Nat)(h:BD T w w (x.ts++iq x k br v pt b5 b6 b7 b8 b9))(hv:∀W,x.P W->v.In W)(hlen:x.sys.length<=1000000):
  Calls prog 237 #[b5,b6,b7,b8,b9] w (wY T w x k br v pt b5 b6 b7 b8 b9):=by
 have BG:=hdq h;have HV:=hdq hv;clear h hv;obtain⟨⟨p5,p6,p7,p8,q8,r8,p9⟩,z5,z6,z7,z8,z9⟩:=BD.iq (r:=[]) (by simpa only[List.append_nil]using BG.o);by_cases hk:0<=k/\k<(x.sys.length:Int)
 .obtain⟨n,rfl⟩:=Int.eq_ofNat_of_zero_le hk.1
  have hnk:n<x.sys.length:=by omega
  clear hk;obtain⟨g3,hg3,hx⟩:=BG.o.dU n hnk;clear hx;have HC:=hdq (BG.o.nC n hnk g3 hg3);have HG:=hdq hg3;clear hg3;obtain⟨ba,hba⟩:∃u,x.sys[n].jr=u:=⟨_,rfl⟩;obtain⟨bn,hbn⟩:∃u,x.sys[n].gm=u:=⟨_,rfl⟩;obtain⟨bc,hbc⟩:∃u,x.sys[n].jv=u:=⟨_,rfl⟩;obtain⟨dn,hdn⟩:∃u,x.sys[n].done=u:=⟨_,rfl⟩;have HB:=hdq hba;have HBN:=hdq hbn;have HBC:=hdq hbc;have HD:=hdq hdn;clear hba hbn hbc hdn;have HE2:Hid (¬((0<=br/\br<(bn:Int))/\v.plain.Ok/\(-1<=pt/\pt<(x.sys.length:Int)))->gN x (n:Int) br v pt 2 x):=fun hno=> .inr ⟨n,hnk,rfl,.inl ⟨by rw[HBN.o];exact hno,rfl,rfl⟩⟩;have OI:Hid (((0<=br/\br<(bn:Int))/\v.plain.Ok/\(-1<=pt/\pt<(x.sys.length:Int)))->dn=true->gN x (n:Int) br v pt 160 x):=fun hy hd=> .inr ⟨n,hnk,rfl,.inr ⟨by rw[HBN.o];exact hy,.inl ⟨HD.o.trans hd,rfl,rfl⟩⟩⟩;have HE0:Hid (((0<=br/\br<(bn:Int))/\v.plain.Ok/\(-1<=pt/\pt<(x.sys.length:Int)))->dn=false->∀v':MT,v'.plain=v.plain->gN x (n:Int) br v pt 0 ((x.knows (fun W=>∀t∈[v'],t.In W)).eP n (x.sys[n].qN br v' pt))):=fun hy hd v' hv'=> .inr ⟨n,hnk,rfl,.inr ⟨by rw[HBN.o];exact hy,.inr ⟨HD.o.trans hd,rfl,v',hv',rfl⟩⟩⟩;go_enter func237,ntmps237
  go_wp2_with fail
  refine HC.o.mono ?_;rintro e w1 ⟨rfl,ht⟩;have BB:=hdq (BG.o.touch ht);clear ht HC BG;clear p5 p6 p7 p8 q8 r8 p9 z5 z6 z7 z8 z9;obtain⟨⟨p5,p6,p7,p8,q8,r8,p9⟩,z5,z6,z7,z8,z9⟩:=BD.iq (r:=[]) (by simpa only[List.append_nil]using BB.o);have f1:w1.cell? ⟨g3,n*11+1,none⟩=some (.slice ba bn bc):=HB.o▸HBN.o▸HBC.o▸BB.o.jA n hnk g3 HG.o 1 (by omega);have zg:g3<w1.heap.size:=World.block_lt_of_cell? _ _ f1;by_cases hc1:0<=br
  .by_cases hc2:br<(bn:Int)
   .skip
    go_wp2_with fail
    go_quiet ((go_at_call 106;exact nW (require_ok _ _)))
    refine ax (Q:=Exit.then _ _) ?_;intro w2 hw2;have HL2:=hdq ((BB.o.drewN _).toW hw2);have D6:Hid (0<=br/\br<(bn:Int)):=⟨hc1,hc2⟩;clear hw2 BB f1 zg;clear p5 p6 p7 p8 q8 r8 p9 z5 z6 z7 z8 z9;obtain⟨⟨p5,p6,p7,p8,q8,r8,p9⟩,z5,z6,z7,z8,z9⟩:=BD.iq (r:=[]) (by simpa only[List.append_nil]using HL2.o);go_wp2_with fail
    refine(jH v w2 (HV.o _ (HL2.o.still 2 rfl))).mono ?_;rintro e w3 ⟨⟨z,rfl,hz,hiff⟩,ht⟩;have BF:=hdq (HL2.o.touch ht);clear ht HL2;clear p5 p6 p7 p8 q8 r8 p9 z5 z6 z7 z8 z9;obtain⟨⟨p5,p6,p7,p8,q8,r8,p9⟩,z5,z6,z7,z8,z9⟩:=BD.iq (r:=[]) (by simpa only[List.append_nil]using BF.o);by_cases hvo:v.plain.Ok
    .obtain rfl:=hiff.2 hvo
     have HVO:=hdq hvo;clear hvo hz hiff hc1 hc2;go_wp2_with fail
     refine(require_ok _ _).mono ?_;rintro e wq ⟨rfl,rfl⟩;dsimp only;obtain⟨w0',w1',w2',w3'⟩:=BF.o.Cb;have zw:=BF.o.Cb.lt;clear w0' w1' w2';by_cases hc1:(-1:Int)<=pt
     .by_cases hc2:pt<(x.sys.length:Int)
      .skip
       go_wp2_with fail
       go_quiet ((go_at_call 106;exact nW (require_ok _ _)))
       refine ax (Q:=Exit.then _ _) ?_;intro w4 hw4;have BH:=hdq ((BF.o.drewN _).toW hw4);have EC:Hid ((0<=br/\br<(bn:Int))/\v.plain.Ok/\(-1<=pt/\pt<(x.sys.length:Int))):=⟨⟨D6.o.1,D6.o.2⟩,HVO.o,⟨hc1,hc2⟩⟩;clear hw4 BF HE2 hc1 hc2;clear p5 p6 p7 p8 q8 r8 p9 z5 z6 z7 z8 z9;obtain⟨⟨p5,p6,p7,p8,q8,r8,p9⟩,z5,z6,z7,z8,z9⟩:=BD.iq (r:=[]) (by simpa only[List.append_nil]using BH.o);have f5:w4.cell? ⟨g3,n*11+5,none⟩=some (.bool dn):=HD.o▸BH.o.jA n hnk g3 HG.o 5 (by omega);have zg:g3<w4.heap.size:=World.block_lt_of_cell? _ _ f5;go_wp2_with fail
       cases dn with
       |true=>
        refine(aY _ _).mono ?_;rintro e wq ⟨rfl,rfl⟩;dsimp only;exact⟨rfl,160,_,x,OI.o EC.o rfl,rfl,⟨0,160,.inr ⟨rfl,rfl⟩,rfl⟩,BH.o⟩
       |false=>
        refine(require_ok _ _).mono ?_;rintro e wq ⟨rfl,rfl⟩;dsimp only;have LU:Hid (∀W,Touch [] w4 W->Calls prog 89 #[v.val] W (yu v W)):=fun W hW=>qG v W (HV.o _ ((BH.o.touch hW).still 2 rfl)) (by rw[<-MT.cu];exact EC.o.2.1.1);have HE:=hdq (HE0.o EC.o rfl);have BZ:=hdq (Touch.refl [] w4).drew;obtain⟨n5,n7,n8,n9⟩:=BH.o.comNe HG.o;have m7:=Ne.symm n7;have m8:=Ne.symm n8;have m9:=Ne.symm n9;clear HE0 OI EC f5 HD;go_wp2_with fail
        refine hrq (S:=fun w'=>w'.cell? ⟨b7,0,none⟩=some (.int .i64 br)/\w'.cell? ⟨b8,0,none⟩=some (.int .i64 v.kind)/\w'.cell? ⟨b8,1,none⟩=some (.int .i64 v.num)/\w'.cell? ⟨b8,2,none⟩=some (.slice v.addr v.parts.length v.cap)/\w'.cell? ⟨b9,0,none⟩=some (.int .i64 pt)) fun hHeld=>?_;refine tkq 0 44 ?_;refine tkq 1 45 ?_;refine tkq 2 46 ?_;refine tkq 3 47 ?_;refine tkq 4 48 ?_;refine tkq 5 49 ?_;refine tkq 7 51 ?_;refine rdq 6 rfl fun K hK=>?_;go_simp;refine(LU.o _ BZ.o).mono ?_;rintro en w5 ⟨v',rfl,hp,hin,hnew,ht⟩;have Ca:=hdq (BH.o.drew.IB ht [v'] (by simpa using hin) (by simpa using hnew));have HE5:=hdq (HE.o v' hp);obtain⟨y,hy⟩:∃y,x.sys[n]=y:=⟨_,rfl⟩;have Db:=hdq (Ca.o.M8 (x:=x.knows _) n hnk g3 HG.o y hy br v' pt);rw[hy]at HE5;clear hp hin hnew ht HE LU BZ HB HBN HBC hHeld;clear p5 p6 p7 p8 q8 r8 p9 z5 z6 z7 z8 z9;obtain⟨⟨p5,p6,p7,p8,q8,r8,p9⟩,z5,z6,z7,z8,z9⟩:=BD.iq (r:=[]) (by simpa only[List.append_nil]using Ca.o);have f5:w5.cell? ⟨g3,n*11+5,none⟩=some (.bool y.done):=hy▸Ca.o.jA (x:=x.knows _) n hnk g3 HG.o 5 (by omega);have zf5:=Ca.o.om (x:=x.knows _) g3 HG.o (n*11+5);have f6:w5.cell? ⟨g3,n*11+6,none⟩=some (.int .i64 y.branch):=hy▸Ca.o.jA (x:=x.knows _) n hnk g3 HG.o 6 (by omega);have zf6:=Ca.o.om (x:=x.knows _) g3 HG.o (n*11+6);have f7:w5.cell? ⟨g3,n*11+7,none⟩=some (.int .i64 y.kind):=hy▸Ca.o.jA (x:=x.knows _) n hnk g3 HG.o 7 (by omega);have zf7:=Ca.o.om (x:=x.knows _) g3 HG.o (n*11+7);have f8:w5.cell? ⟨g3,n*11+8,none⟩=some (.int .i64 y.num):=hy▸Ca.o.jA (x:=x.knows _) n hnk g3 HG.o 8 (by omega);have zf8:=Ca.o.om (x:=x.knows _) g3 HG.o (n*11+8);have f9:w5.cell? ⟨g3,n*11+9,none⟩=some (.slice y.lA y.lN y.lC):=hy▸Ca.o.jA (x:=x.knows _) n hnk g3 HG.o 9 (by omega);have zf9:=Ca.o.om (x:=x.knows _) g3 HG.o (n*11+9);have f10:w5.cell? ⟨g3,n*11+10,none⟩=some (.int .i64 y.partner):=hy▸Ca.o.jA (x:=x.knows _) n hnk g3 HG.o 10 (by omega);have zf10:=Ca.o.om (x:=x.knows _) g3 HG.o (n*11+10);have zg:g3<w5.heap.size:=World.block_lt_of_cell? _ _ f5;clear BH;simp only[MT.val,MT.sl];go_simp;refine kpq hK.o fun hHeld=>?_;clear hK K;refine tkq 8 52 ?_;refine tkq 9 53 ?_;have hl1:∀a,n<((x.knows (fun W=>∀t∈[v'],t.In W)).eP n a).sys.length:=fun a=>by simpa[WS.eP,WS.knows]using hnk
        have HS5:=hdq (Ca.o.fV (x:=x.knows _) n hnk g3 HG.o 5 (by omega) (.bool true) y {y with done:=true} hy rfl);have HS6:=hdq (HS5.o.fV n (hl1 _) g3 HG.o 6 (by omega) (.int .i64 br) _ {y with done:=true,branch:=br} (WS.eX (x.knows _) n hnk _) rfl);rw[WS.dD]at HS6;have HS7:=hdq (HS6.o.fV n (hl1 _) g3 HG.o 7 (by omega) (.int .i64 v'.kind) _ {y with done:=true,branch:=br,kind:=v'.kind} (WS.eX (x.knows _) n hnk _) rfl);rw[WS.dD]at HS7;have HS8:=hdq (HS7.o.fV n (hl1 _) g3 HG.o 8 (by omega) (.int .i64 v'.num) _ {y with done:=true,branch:=br,kind:=v'.kind,num:=v'.num} (WS.eX (x.knows _) n hnk _) rfl);rw[WS.dD]at HS8;have HS9:=hdq (HS8.o.fV n (hl1 _) g3 HG.o 9 (by omega) (.slice v'.addr v'.parts.length v'.cap) _ {y with done:=true,branch:=br,kind:=v'.kind,num:=v'.num,lA:=v'.addr,lN:=v'.parts.length,lC:=v'.cap} (WS.eX (x.knows _) n hnk _) rfl);rw[WS.dD]at HS9;have Ns:=hdq (HS9.o.fV n (hl1 _) g3 HG.o 10 (by omega) (.int .i64 pt) _ (y.qN br v' pt) (WS.eX (x.knows _) n hnk _) rfl);rw[WS.dD]at Ns;clear Db;obtain⟨⟨_,_,s7,t7,u7,v7,s9⟩,_⟩:=BD.iq (r:=[]) (by simpa only[List.append_nil]using HS5.o);refine rdq 10 rfl fun K hK=>?_;go_simp;refine hK.o _ _ ⟨s7,t7,u7,v7,s9⟩ (fun hHeld=>?_);clear hK K s7 t7 u7 v7 s9;(try simp only[Act.put,sAq,sZq,sSq])
        refine tkq 11 54 ?_;refine tkq 12 55 ?_;obtain⟨⟨_,_,s7,t7,u7,v7,s9⟩,_⟩:=BD.iq (r:=[]) (by simpa only[List.append_nil]using HS6.o);refine rdq 13 rfl fun K hK=>?_;go_simp;refine hK.o _ _ ⟨s7,t7,u7,v7,s9⟩ (fun hHeld=>?_);clear hK K s7 t7 u7 v7 s9;(try simp only[Act.put,sAq,sZq,sSq])
        refine tkq 14 56 ?_;refine tkq 15 57 ?_;obtain⟨⟨_,_,s7,t7,u7,v7,s9⟩,_⟩:=BD.iq (r:=[]) (by simpa only[List.append_nil]using HS9.o);refine rdq 16 rfl fun K hK=>?_;go_simp;refine hK.o _ _ ⟨s7,t7,u7,v7,s9⟩ (fun hHeld=>?_);clear hK K s7 t7 u7 v7 s9;(try simp only[Act.put,sAq,sZq,sSq])
        refine tkq 17 58 ?_;refine tkq 18 59 ?_;obtain⟨⟨_,_,s7,t7,u7,v7,s9⟩,_⟩:=BD.iq (r:=[]) (by simpa only[List.append_nil]using Ns.o);refine rdq 19 rfl fun K hK=>?_;go_simp;refine hK.o _ _ ⟨s7,t7,u7,v7,s9⟩ (fun hHeld=>?_);clear hK K s7 t7 u7 v7 s9;(try simp only[Act.put,sAq,sZq,sSq])
        refine dxq Ns fun w7 C8=>?_;clear HS5 HS6 HS7 HS8 HS9 Ns Ca f5 f6 f7 f8 f9 f10 zf5 zf6 zf7 zf8 zf9 zf10 zg hHeld p5 p6 p7 p8 q8 r8 p9;go_wp2;go_ret
        exact⟨0,_,_,HE5.o,rfl,⟨0,0,.inl ⟨rfl,rfl⟩,rfl⟩,C8.o⟩
      .have hd2:decide (pt<(x.sys.length:Int))=false:=decide_eq_false hc2
       go_wp2_with fail
       refine hrq (S:=fun w'=>w'.cell? ⟨b9,0,none⟩=some (.int .i64 pt)/\w'.cell? ⟨b5,0,none⟩=some (.pointer (some ⟨x.wb,0,none⟩))/\w'.cell? ⟨x.wb,3,none⟩=some (.slice x.a3 x.sys.length x.c3)) fun hHeld=>?_;refine tkq 0 26 ?_;refine tkq 1 27 ?_;refine tkq 2 28 ?_;refine tkq 3 29 ?_;refine tkq 4 30 ?_;refine tkq 5 31 ?_;refine tkq 6 32 ?_;refine tkq 7 33 ?_;refine tkq 8 34 ?_;refine tkq 9 35 ?_;refine tkq 10 36 ?_;refine rdq 11 rfl fun K hK=>?_;go_simp;(try rw[hd2])
       refine(aY _ _).mono ?_;rintro en wq ⟨rfl,rfl⟩;dsimp only;exact⟨rfl,2,_,x,HE2.o (fun h=>(fun h=>absurd h.2 (by omega)) h.2.2),rfl,⟨0,2,.inr ⟨rfl,rfl⟩,rfl⟩,BF.o.drew⟩
     .have hd1:decide ((-1:Int)<=pt)=false:=decide_eq_false hc1
      go_wp2_with fail
      refine hrq (S:=fun w'=>w'.cell? ⟨b9,0,none⟩=some (.int .i64 pt)/\w'.cell? ⟨b5,0,none⟩=some (.pointer (some ⟨x.wb,0,none⟩))/\w'.cell? ⟨x.wb,3,none⟩=some (.slice x.a3 x.sys.length x.c3)) fun hHeld=>?_;refine tkq 0 26 ?_;refine tkq 1 27 ?_;refine tkq 2 28 ?_;refine skq 3 29 ?_;refine skq 4 30 ?_;refine skq 5 31 ?_;refine skq 6 32 ?_;refine skq 7 33 ?_;refine skq 8 34 ?_;refine skq 9 35 ?_;refine tkq 10 36 ?_;refine rdq 11 rfl fun K hK=>?_;go_simp;(try rw[hd1])
      refine(aY _ _).mono ?_;rintro en wq ⟨rfl,rfl⟩;dsimp only;exact⟨rfl,2,_,x,HE2.o (fun h=>(fun h=>absurd h.1 (by omega)) h.2.2),rfl,⟨0,2,.inr ⟨rfl,rfl⟩,rfl⟩,BF.o.drew⟩
    .obtain rfl:z=40:=hz.resolve_left (fun h=>hvo (hiff.1 h))
     go_wp2_with fail
     refine(aY _ _).mono ?_;rintro e wq ⟨rfl,rfl⟩;dsimp only;exact⟨rfl,2,_,x,HE2.o (fun h=>hvo h.2.1),rfl,⟨0,2,.inr ⟨rfl,rfl⟩,rfl⟩,BF.o⟩
   .have hd2:decide (br<(bn:Int))=false:=decide_eq_false hc2
    go_wp2_with fail
    refine hrq (S:=fun w'=>w'.cell? ⟨b7,0,none⟩=some (.int .i64 br)/\w'.cell? ⟨g3,n*11+1,none⟩=some (.slice ba bn bc)) fun hHeld=>?_;refine tkq 0 10 ?_;refine tkq 1 11 ?_;refine tkq 2 12 ?_;refine tkq 3 13 ?_;refine tkq 4 14 ?_;refine tkq 5 15 ?_;refine tkq 6 16 ?_;refine tkq 7 17 ?_;refine tkq 8 18 ?_;refine tkq 9 19 ?_;refine tkq 10 20 ?_;refine rdq 11 rfl fun K hK=>?_;go_simp;(try rw[hd2])
    refine(aY _ _).mono ?_;rintro en wq ⟨rfl,rfl⟩;dsimp only;exact⟨rfl,2,_,x,HE2.o (fun h=>(fun h=>absurd h.2 (by omega)) h.1),rfl,⟨0,2,.inr ⟨rfl,rfl⟩,rfl⟩,BB.o.drew⟩
  .have hd1:decide (0<=br)=false:=decide_eq_false hc1
   go_wp2_with fail
   refine hrq (S:=fun w'=>w'.cell? ⟨b7,0,none⟩=some (.int .i64 br)/\w'.cell? ⟨g3,n*11+1,none⟩=some (.slice ba bn bc)) fun hHeld=>?_;refine tkq 0 10 ?_;refine tkq 1 11 ?_;refine tkq 2 12 ?_;refine skq 3 13 ?_;refine skq 4 14 ?_;refine skq 5 15 ?_;refine skq 6 16 ?_;refine skq 7 17 ?_;refine skq 8 18 ?_;refine skq 9 19 ?_;refine tkq 10 20 ?_;refine rdq 11 rfl fun K hK=>?_;go_simp;(try rw[hd1])
   refine(aY _ _).mono ?_;rintro en wq ⟨rfl,rfl⟩;dsimp only;exact⟨rfl,2,_,x,HE2.o (fun h=>(fun h=>absurd h.1 (by omega)) h.1),rfl,⟨0,2,.inr ⟨rfl,rfl⟩,rfl⟩,BB.o.drew⟩
 .have HE:Hid (gN x k br v pt 4 x):= .inl ⟨hk,rfl,rfl⟩
  have E9:=hdq (BG.o.fE k hk);clear hk;go_enter func237,ntmps237
  go_wp2_with fail
  refine E9.o.mono ?_;rintro e w1 ⟨rfl,ht⟩;dsimp only;exact⟨rfl,4,_,x,HE.o,rfl,⟨0,4,.inr ⟨rfl,rfl⟩,rfl⟩,BG.o.touch ht⟩
theorem qz(T:List Nat)(w:World)(x:WS)(k br:Int)(v:MT)(pt:Int)(h:BD T w w x.ts)(hv:∀W,x.P W->v.In W)(hlen:x.sys.length<=1000000):
  Calls prog 145 #[x.wb,k,br,v.val,pt] w fun en w'=>∃er x',en= .returned (.int .i64 er)/\gN x k br v pt er x'/\BD T w w' x'.ts:=by
 have Ep:= @mfq;have BG:=hdq h;clear h;simp only[MT.val,MT.sl];go_enter func145,ntmps145
 go_wp2_with fail
 refine ah ?_;intro w1 hw1;have BB:=hdq ((((((BG.o.alloc 48 #[x.wb]).alloc 3 #[k]).alloc 3 #[br]).alloc 58 #[v.kind,v.num,.slice v.addr v.parts.length v.cap]).alloc 3 #[pt]).toW hw1);simp only[World.size_alloc,List.append_assoc,cAq,nAq]at BB;generalize FK:w.heap.size+1+1+1+1=b9 at BB|-;generalize Kj:w.heap.size+1+1+1=b8 at BB|-;generalize EF:w.heap.size+1+1=b7 at BB|-;generalize hb6:w.heap.size+1=b6 at BB|-;generalize hb5:w.heap.size=b5 at BB|-;clear hw1 FK Kj EF hb6 hb5 BG;refine(yJ T w w1 _ _ _ (fun er l'=>∃x',gN x k br v pt er x'/\l'=x'.ts++iq x k br v pt b5 b6 b7 b8 b9) BB.o (enters_of func237 (by kernel_rfl) rfl) (fun T' W hW=>?_)).mono ?_
 .refine(Bo T' W x k br v pt b5 b6 b7 b8 b9 hW hv hlen).mono ?_
  rintro en w' ⟨er,l',x',hx,rfl,ht⟩;exact⟨er,_,⟨x',hx,rfl⟩,ht⟩
 rintro en w' ⟨er,l',rfl,⟨x',hx,rfl⟩,hL⟩;have HL2:=hdq hL.aF;have HX:=hdq hx;clear hL BB hx;dsimp only;go_wp2;go_ret
 exact⟨er,x',rfl,HX.o,HL2.o⟩
def dP.of(k:Int)(m:MS)(br:Int)(v:MT):dP:=⟨k,m.thread,br,m.flag,v.kind,v.num,v.addr,v.parts.length,v.cap⟩
def jo(x:WS)(ms:List MS)(k br:Int)(v:dP)(er:Int)(x':WS):Prop:=
 (¬(0<=k/\k<(ms.length:Int))/\er=4/\v=dP.zero/\x'=x)\/∃(n:Nat) (hn:n<ms.length),k=(n:Int)/\
  ((¬(0<=br/\br<(ms[n].bases.length:Int))/\er=2/\v=dP.zero/\x'=x)\/
   ∃(j:Nat) (hj:j<ms[n].bases.length) (v':MT),br=(j:Int)/\er=0/\v'.plain=ms[n].bases[j].v.plain/\v=dP.of k ms[n] br v'/\x'=x.knows (fun W=>v'.In W/\v'.nodes<=256))
theorem aiO(x:WS)(ms:List MS)(k br:Int)(b2 b3 b4:Nat)(hms:x.sys=ms.map MS.raw)(hin:∀W,x.P W->∀m∈ms,m.In W):aai prog 115 #[b2,b3,b4] [x.ts,[box b2 48 #[x.wb]],[box b3 3 #[k]],[box b4 3 #[br]]] fun e Y=>∃v er x',jo x ms k br v er x'/\((er=0/\e= .returned v.val)\/(v=dP.zero/\e= .panicked (aX er)))/\Y=[x'.ts,[box b2 48 #[x.wb]],[box b3 3 #[k]],[box b4 3 #[br]]]:=by
 have hlen:x.sys.length=ms.length:=by rw[hms];simp
 by_cases hk:0<=k/\k<(x.sys.length:Int)
 case neg=>
  have hC:=abl x k hk;refine aai.go func115 ntmps115 ?_;refine go1 fun b5=>?_;refine prr hC ?_;exact⟨dP.zero,4,x,.inl ⟨by rw[<-hlen];exact hk,rfl,rfl,rfl⟩,.inr ⟨rfl,rfl⟩,rfl⟩
 obtain⟨n,rfl⟩:=Int.eq_ofNat_of_zero_le hk.1;have hnk:n<x.sys.length:=by omega
 have hnm:n<ms.length:=by omega
 refine aai.know (p:=∃g,x.a3=some ⟨g,0,none⟩) (fun T w hl=>ac5 (r0:=[_,_,_]) (by simpa using hl) hnk) ?_;rintro⟨g3,hg3⟩;have hC:=acy x n hnk g3 hg3;have e:x.sys[n]=ms[n].raw:=by simp[hms]
 have hE2:¬(0<=br/\br<(ms[n].bases.length:Int))->jo x ms (n:Int) br dP.zero 2 x:=fun hno=> .inr ⟨n,hnm,rfl,.inl ⟨hno,rfl,rfl,rfl⟩⟩;have hE0:∀(j:Nat) (hj:j<ms[n].bases.length) (v':MT),br=(j:Int)->v'.plain=ms[n].bases[j].v.plain->jo x ms (n:Int) br (dP.of (n:Int) ms[n] br v') 0 (x.knows (fun W=>v'.In W/\v'.nodes<=256)):=fun j hj v' hb hv=> .inr ⟨n,hnm,rfl,.inr ⟨j,hj,v',hb,rfl,hv,rfl,rfl⟩⟩;have EQ:∀W,x.P W->ms[n].In W:=fun W hW=>hin W hW _ (List.getElem_mem hnm);generalize ms[n]=m at e EQ hE2 hE0;have l1:abv x.ts g3 (n*11+1) (.slice m.ba m.bases.length m.bc):=acG hnk hg3 1 (by omega) (by rw[e];rfl);have l0:∀Q,abv (x.knows Q).ts g3 (n*11) (.int .i64 m.thread):=fun Q=>acG (x:=x.knows Q) hnk hg3 0 (by omega) (by show x.sys[n].cells[0]? =_;rw[e];rfl);have l3:∀Q,abv (x.knows Q).ts g3 (n*11+3) (.int .i64 m.flag):=fun Q=>acG (x:=x.knows Q) hnk hg3 3 (by omega) (by show x.sys[n].cells[3]? =_;rw[e];rfl);clear hin hms hlen e hk hnk hnm hg3;by_cases h1:0<=br
 case neg=>
  have n1:decide (0<=br)=false:=decide_eq_false h1;refine aai.go func115 ntmps115 ?_;refine go1 fun b5=>?_;refine crr hC fun _ _=>?_;refine go ?_;refine W.rgd ?_;repeat (refine' rgk ?_;rotate_left)
  refine rgz 0 ?_ ?_;refine go ?_;refine pfy (rs:=[]) (ade fun w=>aY w 2) [x.ts,[box b2 48 #[x.wb]],[box b3 3 #[(n:Int)]],[box b4 3 #[br]]] (fun T w0 w hl=>by simpa[puts]using acE 4 hl) ?_;exact⟨dP.zero,2,x,hE2 (fun h=>h1 h.1),.inr ⟨rfl,rfl⟩,rfl⟩
  kernel_rfl
 have n1:decide (0<=br)=true:=decide_eq_true h1;by_cases h2:br<(m.bases.length:Int)
 case neg=>
  have n2:decide (br<(m.bases.length:Int))=false:=decide_eq_false h2;refine aai.go func115 ntmps115 ?_;refine go1 fun b5=>?_;refine crr hC fun _ _=>?_;refine go ?_;refine W.rgd ?_;repeat (refine' rgk ?_;rotate_left)
  refine rgz 0 ?_ ?_;refine go ?_;refine pfy (rs:=[]) (ade fun w=>aY w 2) [x.ts,[box b2 48 #[x.wb]],[box b3 3 #[(n:Int)]],[box b4 3 #[br]]] (fun T w0 w hl=>by simpa[puts]using acE 4 hl) ?_;exact⟨dP.zero,2,x,hE2 (fun h=>h2 h.2),.inr ⟨rfl,rfl⟩,rfl⟩
  kernel_rfl
 have n2:decide (br<(m.bases.length:Int))=true:=decide_eq_true h2;obtain⟨j,rfl⟩:=Int.eq_ofNat_of_zero_le h1;have hj:j<m.bases.length:=by omega
 have hE:=fun v'=>hE0 j hj v' rfl;have hB:∀W,x.P W->∃b o,m.ba=some ⟨b,o,none⟩/\b<W.heap.size/\∀q,q<7->W.cell? ⟨b,o+j*7+q,none⟩=m.bases[j].cells[q]? :=fun W hW=>aG.at (f:=MB.cells) (fun _=>rfl) (EQ W hW).2.1.1 j hj;have hU:∀W,x.P W->m.bases[j].v.In W/\m.bases[j].v.nodes<=256:=fun W hW=>((EQ W hW).2.1.2 _ (List.getElem_mem hj)).1;clear hE0 hE2 EQ h1;generalize m.bases[j]=u at hE hB hU;refine aai.know (p:=∃bb oo,m.ba=some ⟨bb,oo,none⟩) (fun T w hl=>by obtain⟨b',o',hb',_⟩:=hB w (hl.still 2 rfl);exact⟨b',o',hb'⟩) ?_;rintro⟨bb,oo,hba⟩;have hl3:abd x.ts bb (oo+j*7+2) 3 [.int .i64 u.v.kind,.int .i64 u.v.num,.slice u.v.addr u.v.parts.length u.v.cap]:=⟨rfl,fun T w0 w R hl q v hv=>by
  obtain⟨b',o',hb',_,hc⟩:=hB w (hl.still 2 rfl);rw[hba]at hb';injection hb' with hb'
  injection hb' with e1 e2
  subst e1 e2;have hq:q<3:=(List.getElem?_eq_some_iff.1 hv).1;rw[show oo+j*7+2+q=oo+j*7+(q+2) by omega,hc (q+2) (by omega),<-hv];rcases(show q=0\/q=1\/q=2 by omega)with rfl|rfl|rfl<;>rfl⟩
 have hCp:aai prog 89 #[.agg #[u.v.kind,u.v.num,.slice u.v.addr u.v.parts.length u.v.cap]] [x.ts] (xq (fun v':MT=>v'.plain=u.v.plain) (fun v'=> .agg #[v'.kind,v'.num,.slice v'.addr v'.parts.length v'.cap]) fun v'=>[(x.knows (fun W=>v'.In W/\v'.nodes<=256)).ts]):=fun T w hl=>by
  have hl':BD T w w x.ts:=by simpa using hl
  obtain⟨h1,h2⟩:=hU w (hl'.still 2 rfl);have h:=kr u.v w h1 h2;rw[eG]at h;exact h.mono fun e w' ⟨v',he,hp,hL⟩=>⟨[(x.knows (fun W=>v'.In W/\v'.nodes<=256)).ts],rfl,⟨v',hp,by rw[he,eG],rfl⟩,by
   have h9:=(BD.join (l:=x.ts) hl' hL).settle 2 rfl (Q:=fun W=>x.P W/\v'.In W/\v'.nodes<=256) fun W f hp hv=>⟨hp,hv.2 W (fun _ _=>rfl)⟩;have h8:BD T w w' (x.knows (fun W=>v'.In W/\v'.nodes<=256)).ts:=h9;simpa using h8⟩
 have hbs:∀(v:MT) W,(Instr.build 65 #[(0,.int .i64 (n:Int)),(1,.int .i64 m.thread),(2,.int .i64 (j:Int)),(3,.int .i64 m.flag),(4,.agg #[v.kind,v.num,.slice v.addr v.parts.length v.cap])]).run prog W= .ok (.agg #[(n:Int),m.thread,(j:Int),m.flag,v.kind,v.num,.slice v.addr v.parts.length v.cap]) W:=fun v W=>run_build W 65 _ _ (by kernel_rfl);have hj0:(0:Int)<=(j:Int):=by omega
 rw[hba]at l1;clear hB hU hba hj;refine aai.go func115 ntmps115 ?_;refine go1 fun b5=>?_;refine crr hC fun _ _=>?_;refine go ?_;refine W.rgd ?_;repeat (refine' rgk ?_;rotate_left)
 refine rgz 0 ?_ ?_;refine go ?_;refine cr (abF fun w=>require_ok w 2) fun _ _=>?_;refine go ?_;refine W.rgd ?_;repeat (refine' rgk ?_;rotate_left)
 refine rgz 0 ?_ ?_;refine go ?_;refine cr hCp fun v' hv=>?_;have hb1:=hbs v';have q0:=l0 (fun W=>v'.In W/\v'.nodes<=256);have q3:=l3 (fun W=>v'.In W/\v'.nodes<=256);refine go1 fun b6=>?_;refine W.rgd ?_;repeat (refine' rgk ?_;rotate_left)
 refine rgz 0 ?_ ?_;refine go ?_;refine W.ady [(x.knows (fun W=>v'.In W/\v'.nodes<=256)).ts,[box b2 48 #[x.wb]],[box b3 3 #[(n:Int)]],[box b4 3 #[(j:Int)]]] (fun T w0 w hl=>by simpa using acE 4 hl) ?_;exact⟨_,0,_,hE v' hv,.inl ⟨rfl,rfl⟩,rfl⟩
 all_goals kernel_rfl
def eZ(x:WS)(k br:Int)(b2 b3 b4:Nat):List ai:=[wB x b2,kB b3 k,kB b4 br]
theorem zn(T:List Nat)(w:World)(x:WS)(ms:List MS)(k br:Int)(h:BD T w w x.ts)(hms:x.sys=ms.map MS.raw)(hin:∀W,x.P W->∀m∈ms,m.In W):
  Calls prog 38 #[x.wb,k,br] w fun e w'=>∃(v:dP) (er:Int) (x':WS),e= .returned (.tuple #[v.val,.int .i64 er])/\jo x ms k br v er x'/\BD T w w' x'.ts:=by
 have Ep:= @mfq;have BG:=hdq h;have HMS:=hdq hms;have Ed:=hdq hin;clear h hms hin;go_enter func38,ntmps38
 go_wp2_with fail
 refine ah ?_;intro w1 hw1;have BB:=hdq (((((BG.o.alloc 48 #[x.wb]).alloc 3 #[k]).alloc 3 #[br]).alloc 65 #[(),(),(),(),(),(),True]).toW hw1);simp only[World.size_alloc,List.append_assoc,cAq,nAq]at BB;generalize hb5:w.heap.size+1+1+1=b5 at BB|-;generalize hb4:w.heap.size+1+1=b4 at BB|-;generalize hb3:w.heap.size+1=b3 at BB|-;generalize hb2:w.heap.size=b2 at BB|-;clear hw1 hb5 hb4 hb3 hb2 BG;refine(rG T w w1 _ _ _ (fun v er l'=>∃x',jo x ms k br v er x'/\l'=x'.ts++eZ x k br b2 b3 b4++[dJ b5]) BB.o (enters_of func115 (by kernel_rfl) rfl) (fun T' W hW=>?_)).mono ?_
 .obtain⟨T2,hF,hb⟩:=BD.aN (m:=x.ts++eZ x k br b2 b3 b4) (r:=[dJ b5]) (by rw[List.append_assoc];exact hW)
  refine(aiO x ms k br b2 b3 b4 HMS.o Ed.o T2 W (by simpa[eZ,wB,kB]using hF)).mono ?_;rintro en w' ⟨Y,_,⟨v,er,x',hx,he,rfl⟩,hL⟩;exact⟨v,er,_,he,⟨x',hx,rfl⟩,hb _ _ (by rcases hx with ⟨_,_,_,rfl⟩|⟨_,_,_,⟨_,_,_,rfl⟩|⟨_,_,_,_,_,_,_,rfl⟩⟩<;>simpa[eZ,wB,kB,WS.knows]using hL)⟩
 rintro en w2 ⟨v,er,l',rfl,⟨x',hx,rfl⟩,hL⟩;have HX:=hdq hx;have BF:=hdq (BD.aB (a:=[]) (b:=x'.ts++eZ x k br b2 b3 b4) (c:=[dJ b5]) (by simpa using hL));clear hL hx BB;simp only[nAq,cAq,dJ]at BF;unfold dP.val;dsimp only;obtain⟨q0,q1,q2,q3,q4,q5,q6,⟨G9,G6,G5,Ng,NG,L6,NH⟩,zq,_,_⟩:=BF.o.c7 0 rfl;have Ca:=hdq (((((((BF.o.set 0 rfl 0 (.int .i64 v.sync)).set 0 rfl 1 (.int .i64 v.thread)).set 0 rfl 2 (.int .i64 v.branch)).set 0 rfl 3 (.int .i64 v.flag)).set 0 rfl 4 (.int .i64 v.kind)).set 0 rfl 5 (.int .i64 v.num)).set 0 rfl 6 (.slice v.lA v.lN v.lC));simp only[sSq,sZq,sAq]at Ca;clear BF;go_wp2;refine aP ?_;intro w5 DC;have C8:=hdq (Ca.o.toW DC);clear DC Ca q0 q1 q2 q3 q4 q5 q6 G9 G6 G5 Ng NG L6 NH zq;obtain⟨q0,q1,q2,q3,q4,q5,q6,_,zq,_,_⟩:=C8.o.c7 0 rfl;refine bodyPost_ret (v:= .tuple #[v.val,.int .i64 er]) (by simp[results,results38,go_sem,q0,q1,q2,q3,q4,q5,q6,dP.val]) rfl ?_;refine⟨v,er,x',rfl,HX.o,?_⟩;have hz:BD T w w5 (x'.ts++eZ x k br b2 b3 b4++[_]):=BD.aB (a:=[]) (b:=[_]) C8.o;exact BD.aF (BD.aF hz)
structure RV where
 ca:Option Addr
 cn:Nat
 cc:Nat
 most:Int
 la:Option Addr
 ln:Nat
 lc:Nat
 ha:Option Addr
 hn:Nat
 hc:Nat
 oa:Option Addr
 on:Nat
 oc:Nat
 sa:Option Addr
 sn:Nat
 sc:Nat
def RV.val(v:RV):Value:= .agg #[.slice v.ca v.cn v.cc,v.most,.slice v.la v.ln v.lc,.slice v.ha v.hn v.hc,.slice v.oa v.on v.oc,.slice v.sa v.sn v.sc]
theorem BD.c6{T:List Nat}{w0 w:World}{l:List ai}{b t:Nat}(h:BD T w0 w l)(i:Nat){x0 x1 x2 x3 x4 x5:Value}(hi:l[i]? =some (Proofs.YtegejdlglonflaaGreatDoor.box b t #[x0,x1,x2,x3,x4,x5])):w.cell? ⟨b,0,none⟩=some x0/\w.cell? ⟨b,1,none⟩=some x1/\w.cell? ⟨b,2,none⟩=some x2/\w.cell? ⟨b,3,none⟩=some x3/\w.cell? ⟨b,4,none⟩=some x4/\w.cell? ⟨b,5,none⟩=some x5/\(w.frozen? ⟨b,0,none⟩=false/\w.frozen? ⟨b,1,none⟩=false/\w.frozen? ⟨b,2,none⟩=false/\w.frozen? ⟨b,3,none⟩=false/\w.frozen? ⟨b,4,none⟩=false/\w.frozen? ⟨b,5,none⟩=false)/\b<w.heap.size/\b<w.heap.size+1/\b<w.heap.size+1+1:=by
 have hb:=h.box i hi;have hl:=hb.lt;exact⟨hb.cell 0,hb.cell 1,hb.cell 2,hb.cell 3,hb.cell 4,hb.cell 5,⟨hb.frozen 0,hb.frozen 1,hb.frozen 2,hb.frozen 3,hb.frozen 4,hb.frozen 5⟩,hl,ltq hl,ltq (ltq hl)⟩
theorem kY(v:RV)(w:World)(k:Int)(hk:¬(0<=k/\k<(v.hn:Int))):Calls prog 150 #[v.val,k] w fun e w'=>e= .returned (.bool false)/\Touch [] w w':=by
 refine abM ?_ w;simp only[RV.val];by_cases h:0<=k
 .have d1:decide (0<=k)=true:=decide_eq_true h
  have d2:decide (k<(v.hn:Int))=false:=decide_eq_false (by omega);clear hk h;refine aai.go func150 ntmps150 ?_;refine go1 fun _=>?_;refine W.abg ?_;exact⟨(),trivial,rfl,rfl⟩
 .have d1:decide (0<=k)=false:=decide_eq_false h
  clear hk h;refine aai.go func150 ntmps150 ?_;refine go1 fun _=>?_;refine W.abg ?_;exact⟨(),trivial,rfl,rfl⟩
theorem jF(v:RV)(w:World)(k:Int)(hk:¬(0<=k/\k<(v.on:Int))):Calls prog 146 #[v.val,k] w fun e w'=>e= .returned (.bool false)/\Touch [] w w':=by
 refine abM ?_ w;simp only[RV.val];by_cases h:0<=k
 .have d1:decide (0<=k)=true:=decide_eq_true h
  have d2:decide (k<(v.on:Int))=false:=decide_eq_false (by omega);clear hk h;refine aai.go func146 ntmps146 ?_;refine go1 fun _=>?_;refine W.abg ?_;exact⟨(),trivial,rfl,rfl⟩
 .have d1:decide (0<=k)=false:=decide_eq_false h
  clear hk h;refine aai.go func146 ntmps146 ?_;refine go1 fun _=>?_;refine W.abg ?_;exact⟨(),trivial,rfl,rfl⟩
theorem ic(v:RV)(w:World)(k:Int)(hk:¬(0<=k/\k<(v.sn:Int))):Calls prog 134 #[v.val,k] w fun e w'=>e= .returned (.bool false)/\Touch [] w w':=by
 refine abM ?_ w;simp only[RV.val];by_cases h:0<=k
 .have d1:decide (0<=k)=true:=decide_eq_true h
  have d2:decide (k<(v.sn:Int))=false:=decide_eq_false (by omega);clear hk h;refine aai.go func134 ntmps134 ?_;refine go1 fun _=>?_;refine W.abg ?_;exact⟨(),trivial,rfl,rfl⟩
 .have d1:decide (0<=k)=false:=decide_eq_false h
  clear hk h;refine aai.go func134 ntmps134 ?_;refine go1 fun _=>?_;refine W.abg ?_;exact⟨(),trivial,rfl,rfl⟩
theorem iQ(w:World)(s:Int):Calls prog 223 #[s] w fun e w'=>e= .returned (.int .i64 (bM s))/\w=w':=by
 by_cases h:s=1\/s=2
 .exact vS w s (by omega)
 .have h1:s≠1:=fun h1=>h (.inl h1)
  have h2:s≠2:=fun h2=>h (.inr h2);have ho:jV s= -1:=by unfold jV;rw[if_neg h1,if_neg h2]
  have hoo:bM s=0:=by unfold bM;rw[if_neg h1,if_neg h2]
  clear h h1 h2;go_enter func223,ntmps223
  go_wp2_with fail
  refine(uH _ _).mono ?_;rintro e w' ⟨rfl,rfl⟩;rw[ho];go_wp2;go_ret
  exact⟨by rw[hoo];rfl,rfl⟩
theorem noq{G:Prop}(h:G:=by
  refine cr hC fun _ _=>?_;refine go ?_;refine W.abg ?_;exact⟨(),trivial,rfl,rfl⟩):G:=h
theorem Ju(v:RV)(w:World)(k s:Int)(e:ME)(hs:¬(s=1\/s=2)):Calls prog 132 #[v.val,k,s,e.val] w fun e w'=>e= .returned (.tuple #[v.val,(2:Int)])/\Touch [] w w':=by
 refine abM ?_ w;have hO:=abF fun W=>iQ W s;rw[show bM s=0 from by unfold bM;rw[if_neg (fun h=>hs (.inl h)),if_neg (fun h=>hs (.inr h))]]at hO;clear hs;simp only[RV.val,bB];refine aai.go func132 ntmps132 ?_;refine go3 fun _ _ _=>?_;refine cr hO fun _ _=>?_;refine go ?_;refine W.abg ?_;exact⟨(),trivial,rfl,rfl⟩
theorem NQ(v:RV)(w:World)(k s:Int)(e:ME)(hs:s=1\/s=2)(hk:¬(0<=k/\k<(v.hn:Int))):Calls prog 132 #[v.val,k,s,e.val] w fun e w'=>e= .returned (.tuple #[v.val,(4:Int)])/\Touch [] w w':=by
 refine abM ?_ w;have hO:=abF fun W=>iQ W s;have ho:(bM s==0)=false:=by unfold bM;rcases hs with rfl|rfl<;>rfl
 generalize bM s=oo at hO ho;clear hs;have hC:=aam fun W=>kY v W k hk;simp only[RV.val,bB,MT.val,MT.sl]at hC|-;refine aai.go func132 ntmps132 ?_;refine go3 fun _ _ _=>?_;refine cr hO fun _ _=>?_;refine go ?_;exact noq
theorem Ol(v:RV)(w:World)(k:Int)(hk:¬(0<=k/\k<(v.hn:Int))):Calls prog 56 #[v.val,k] w fun e w'=>e= .returned (.tuple #[v.val,false,(4:Int)])/\Touch [] w w':=by
 refine abM ?_ w;have hC:=aam fun W=>kY v W k hk;simp only[RV.val,bB,MT.val,MT.sl]at hC|-;refine aai.go func56 ntmps56 ?_;refine go2 fun _ _=>?_;exact noq
theorem zL(v:RV)(w:World)(k:Int)(hk:¬(0<=k/\k<(v.hn:Int))):Calls prog 59 #[v.val,k] w fun e w'=>e= .returned (.tuple #[v.val,(4:Int)])/\Touch [] w w':=by
 refine abM ?_ w;have hC:=aam fun W=>kY v W k hk;simp only[RV.val,bB,MT.val,MT.sl]at hC|-;refine aai.go func59 ntmps59 ?_;refine go2 fun _ _=>?_;exact noq
theorem uT(v:RV)(w:World)(k:Int)(hk:¬(0<=k/\k<(v.on:Int))):Calls prog 83 #[v.val,k] w fun e w'=>e= .returned (.tuple #[v.val,false,(4:Int)])/\Touch [] w w':=by
 refine abM ?_ w;have hC:=aam fun W=>jF v W k hk;simp only[RV.val,bB,MT.val,MT.sl]at hC|-;refine aai.go func83 ntmps83 ?_;refine go2 fun _ _=>?_;exact noq
theorem rD(v:RV)(w:World)(k:Int)(hk:¬(0<=k/\k<(v.on:Int))):Calls prog 88 #[v.val,k] w fun e w'=>e= .returned (.tuple #[v.val,(4:Int)])/\Touch [] w w':=by
 refine abM ?_ w;have hC:=aam fun W=>jF v W k hk;simp only[RV.val,bB,MT.val,MT.sl]at hC|-;refine aai.go func88 ntmps88 ?_;refine go2 fun _ _=>?_;exact noq
theorem Nn(v:RV)(w:World)(k:Int)(hk:¬(0<=k/\k<(v.on:Int))):Calls prog 54 #[v.val,k] w fun e w'=>e= .returned (.tuple #[v.val,(4:Int)])/\Touch [] w w':=by
 refine abM ?_ w;have hC:=aam fun W=>jF v W k hk;simp only[RV.val,bB,MT.val,MT.sl]at hC|-;refine aai.go func54 ntmps54 ?_;refine go2 fun _ _=>?_;exact noq
theorem OD(v:RV)(w:World)(k:Int)(e:ME)(hk:¬(0<=k/\k<(v.on:Int))):Calls prog 133 #[v.val,k,e.val] w fun e w'=>e= .returned (.tuple #[v.val,(4:Int)])/\Touch [] w w':=by
 refine abM ?_ w;have hC:=aam fun W=>jF v W k hk;simp only[RV.val,bB,MT.val,MT.sl]at hC|-;refine aai.go func133 ntmps133 ?_;refine go3 fun _ _ _=>?_;exact noq
theorem L8(v:RV)(w:World)(k:Int)(hk:¬(0<=k/\k<(v.on:Int))):Calls prog 84 #[v.val,k] w fun e w'=>e= .returned (.tuple #[v.val,.agg #[(),(),(),(),(),(),True],false,(4:Int)])/\Touch [] w w':=by
 refine abM ?_ w;have hC:=aam fun W=>jF v W k hk;simp only[RV.val,bB,MT.val,MT.sl]at hC|-;refine aai.go func84 ntmps84 ?_;refine go3 fun _ _ _=>?_;exact noq
theorem Ki(v:RV)(w:World)(k:Int)(hk:¬(0<=k/\k<(v.sn:Int))):Calls prog 47 #[v.val,k] w fun e w'=>e= .returned (.tuple #[v.val,(),(4:Int)])/\Touch [] w w':=by
 refine abM ?_ w;have hC:=aam fun W=>ic v W k hk;simp only[RV.val,bB,MT.val,MT.sl]at hC|-;refine aai.go func47 ntmps47 ?_;refine go2 fun _ _=>?_;exact noq
theorem NP(v:RV)(w:World)(k:Int)(hk:¬(0<=k/\k<(v.sn:Int))):Calls prog 85 #[v.val,k] w fun e w'=>e= .returned (.tuple #[v.val,(),(4:Int)])/\Touch [] w w':=by
 refine abM ?_ w;have hC:=aam fun W=>ic v W k hk;simp only[RV.val,bB,MT.val,MT.sl]at hC|-;refine aai.go func85 ntmps85 ?_;refine go2 fun _ _=>?_;exact noq
theorem zk(v:RV)(w:World)(k:Int)(hk:¬(0<=k/\k<(v.sn:Int))):Calls prog 49 #[v.val,k] w fun e w'=>e= .returned (.tuple #[v.val,(),(4:Int)])/\Touch [] w w':=by
 refine abM ?_ w;have hC:=aam fun W=>ic v W k hk;simp only[RV.val,bB,MT.val,MT.sl]at hC|-;refine aai.go func49 ntmps49 ?_;refine go2 fun _ _=>?_;exact noq
theorem wI(v:RV)(w:World)(k:Int)(hk:¬(0<=k/\k<(v.sn:Int))):Calls prog 51 #[v.val,k] w fun e w'=>e= .returned (.tuple #[v.val,(4:Int)])/\Touch [] w w':=by
 refine abM ?_ w;have hC:=aam fun W=>ic v W k hk;simp only[RV.val,bB,MT.val,MT.sl]at hC|-;refine aai.go func51 ntmps51 ?_;refine go2 fun _ _=>?_;exact noq
theorem Ap(v:RV)(w:World)(k:Int)(br:Int)(u:MT)(pt:Int)(hk:¬(0<=k/\k<(v.sn:Int))):Calls prog 86 #[v.val,k,br,u.val,pt] w fun e w'=>e= .returned (.tuple #[v.val,(4:Int)])/\Touch [] w w':=by
 refine abM ?_ w;have hC:=aam fun W=>ic v W k hk;simp only[RV.val,bB,MT.val,MT.sl]at hC|-;refine aai.go func86 ntmps86 ?_;refine go3 fun _ _ _=>?_;exact noq
theorem Ot(v:RV)(w:World)(k:Int)(hk:¬(0<=k/\k<(v.sn:Int))):Calls prog 87 #[v.val,k] w fun e w'=>e= .returned (.tuple #[v.val,(4:Int)])/\Touch [] w w':=by
 refine abM ?_ w;have hC:=aam fun W=>ic v W k hk;simp only[RV.val,bB,MT.val,MT.sl]at hC|-;refine aai.go func87 ntmps87 ?_;refine go2 fun _ _=>?_;exact noq
theorem JY(v:RV)(w:World)(k:Int)(br:Int)(hk:¬(0<=k/\k<(v.sn:Int))):Calls prog 130 #[v.val,k,br] w fun e w'=>e= .returned (.tuple #[.agg #[(),(),(),(),(),(),True],(4:Int)])/\Touch [] w w':=by
 refine abM ?_ w;have hC:=aam fun W=>ic v W k hk;simp only[RV.val,bB,MT.val,MT.sl]at hC|-;refine aai.go func130 ntmps130 ?_;refine go2 fun _ _=>?_;exact noq
theorem Nt(v:RV)(w:World)(k:Int)(hk:¬(0<=k/\k<(v.sn:Int))):Calls prog 58 #[v.val,k] w fun e w'=>e= .returned (.tuple #[v.val,false,(4:Int)])/\Touch [] w w':=by
 refine abM ?_ w;have hC:=aam fun W=>zk v W k hk;simp only[RV.val,bB,MT.val,MT.sl]at hC|-;refine aai.go func58 ntmps58 ?_;refine go2 fun _ _=>?_;refine cr hC fun _ _=>?_;refine go1 fun _=>?_;refine W.abg ?_;exact⟨(),trivial,rfl,rfl⟩
end Go.Proofs.YtegejdlglonflaaGreatDoor
