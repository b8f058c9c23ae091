/-
  Texts of FireHolds, laid together by program.
-/
import Derived.Test.YtegejdlglonflaaGreatDoorWZ25
namespace Go.Proofs.YtegejdlglonflaaGreatDoor
open Go.RowKit Go.Shelf Go.Proofs.Tryz
set_option maxRecDepth 100000
set_option maxHeartbeats 8000000
set_option linter.unusedVariables false
set_option linter.unusedSimpArgs false
theorem nW{P:Program}{f:FuncId}{args:Array Value}{w:World}{n:Nat}{v:Value}(h:Calls P f args (w.drewN n) fun e w'=>e= .returned v/\w.drewN n=w'):Calls P f args (w.drewN n) fun e w''=>e= .returned v/\∃m,w''=w.drewN m:=
 h.mono fun _ _ ⟨he,hm⟩=>⟨he,n,hm.symm⟩
def bL.qN(y:bL)(br:Int)(v:MT)(pt:Int):bL:={y with done:=true,branch:=br,kind:=v.kind,num:=v.num,lA:=v.addr,lN:=v.parts.length,lC:=v.cap,partner:=pt}
def gN(x:WS)(k br:Int)(v:MT)(pt:Int)(er:Int)(x':WS):Prop:=
 (¬(0<=k/\k<(x.sys.length:Int))/\er=4/\x'=x)\/∃(n:Nat) (hn:n<x.sys.length),k=(n:Int)/\
  ((¬((0<=br/\br<(x.sys[n].gm:Int))/\v.plain.Ok/\(-1<=pt/\pt<(x.sys.length:Int)))/\er=2/\x'=x)\/
  (((0<=br/\br<(x.sys[n].gm:Int))/\v.plain.Ok/\(-1<=pt/\pt<(x.sys.length:Int)))/\((x.sys[n].done=true/\er=160/\x'=x)\/
   (x.sys[n].done=false/\er=0/\∃v':MT,v'.plain=v.plain/\x'=(x.knows (fun W=>∀t∈[v'],t.In W)).eP n (x.sys[n].qN br v' pt)))))
def iq(x:WS)(k br:Int)(v:MT)(pt:Int)(b5 b6 b7 b8 b9:Nat):List ai:=[wB x b5,kB b6 k,kB b7 br,box b8 58 #[v.kind,v.num,.slice v.addr v.parts.length v.cap],kB b9 pt]
theorem BD.iq{T:List Nat}{w0 w:World}{x:WS}{m:List ai}{k br:Int}{v:MT}{pt:Int}{b5 b6 b7 b8 b9:Nat}{r:List ai}(h:BD T w0 w (m++(iq x k br v pt b5 b6 b7 b8 b9++r))):
  (w.cell? ⟨b5,0,none⟩=some (.pointer (some ⟨x.wb,0,none⟩))/\w.cell? ⟨b6,0,none⟩=some (.int .i64 k)/\w.cell? ⟨b7,0,none⟩=some (.int .i64 br)/\w.cell? ⟨b8,0,none⟩=some (.int .i64 v.kind)/\w.cell? ⟨b8,1,none⟩=some (.int .i64 v.num)/\w.cell? ⟨b8,2,none⟩=some (.slice v.addr v.parts.length v.cap)/\w.cell? ⟨b9,0,none⟩=some (.int .i64 pt))/\b5<w.heap.size/\b6<w.heap.size/\b7<w.heap.size/\b8<w.heap.size/\b9<w.heap.size:=by
 have h5:=h.box m.length (b:=b5) (t:=48) (cs:=#[.pointer (some ⟨x.wb,0,none⟩)]) (by simp[Proofs.YtegejdlglonflaaGreatDoor.iq,wB]);have h6:=h.box (m.length+1) (b:=b6) (t:=3) (cs:=#[.int .i64 k]) (by simp[Proofs.YtegejdlglonflaaGreatDoor.iq,kB]);have h7:=h.box (m.length+2) (b:=b7) (t:=3) (cs:=#[.int .i64 br]) (by simp[Proofs.YtegejdlglonflaaGreatDoor.iq,kB]);have h8:=h.box (m.length+3) (b:=b8) (t:=58) (cs:=#[.int .i64 v.kind,.int .i64 v.num,.slice v.addr v.parts.length v.cap]) (by simp[Proofs.YtegejdlglonflaaGreatDoor.iq]);have h9:=h.box (m.length+4) (b:=b9) (t:=3) (cs:=#[.int .i64 pt]) (by simp[Proofs.YtegejdlglonflaaGreatDoor.iq,kB]);exact⟨⟨h5.cell 0,h6.cell 0,h7.cell 0,h8.cell 0,h8.cell 1,h8.cell 2,h9.cell 0⟩,h5.lt,h6.lt,h7.lt,h8.lt,h9.lt⟩
theorem BD.comNe{T:List Nat}{w0 w:World}{x:WS}{k br:Int}{v:MT}{pt:Int}{b5 b6 b7 b8 b9 g:Nat}(h:BD T w0 w (x.ts++Proofs.YtegejdlglonflaaGreatDoor.iq x k br v pt b5 b6 b7 b8 b9))(hg:x.a3=some ⟨g,0,none⟩):b5≠g/\b7≠g/\b8≠g/\b9≠g:=by
 have hr:(x.ts++Proofs.YtegejdlglonflaaGreatDoor.iq x k br v pt b5 b6 b7 b8 b9)[5]? =some (aS 60 11 (.slice (some ⟨g,0,none⟩) x.sys.length x.c3) x.sys.length (aU x.sys)):=by rw[<-hg];rfl
 have hl:6<=x.ts.length:=by simp[WS.ts,WS.head]
 have h5:=h.ol 5 (x.ts.length) (b:=b5) (t:=48) (cs:=#[.pointer (some ⟨x.wb,0,none⟩)]) hr (by simp[Proofs.YtegejdlglonflaaGreatDoor.iq,wB]) (by omega);have h7:=h.ol 5 (x.ts.length+2) (b:=b7) (t:=3) (cs:=#[.int .i64 br]) hr (by simp[Proofs.YtegejdlglonflaaGreatDoor.iq,kB]) (by omega);have h8:=h.ol 5 (x.ts.length+3) (b:=b8) (t:=58) (cs:=#[.int .i64 v.kind,.int .i64 v.num,.slice v.addr v.parts.length v.cap]) hr (by simp[Proofs.YtegejdlglonflaaGreatDoor.iq]) (by omega);have h9:=h.ol 5 (x.ts.length+4) (b:=b9) (t:=3) (cs:=#[.int .i64 pt]) hr (by simp[Proofs.YtegejdlglonflaaGreatDoor.iq,kB]) (by omega);exact⟨Ne.symm h5,Ne.symm h7,Ne.symm h8,Ne.symm h9⟩
theorem BD.fV{T:List Nat}{w0 w:World}{x:WS}{r0:List ai}(h:BD T w0 w (x.ts++r0))(n:Nat)(hn:n<x.sys.length)(g:Nat)(hg:x.a3=some ⟨g,0,none⟩)(j:Nat)(hj:j<11)(u:Value)(y v':bL)(hy:x.sys[n]=y)(hv:y.cells.set j u=v'.cells):
  BD T w0 (w.setCell ⟨g,n*11+j,none⟩ u) ((x.eP n v').ts++r0):=h.wK n hn g hg j hj u v' (by rw[hy];exact hv)
theorem WS.dD(x:WS)(n:Nat)(a b:bL):(x.eP n a).eP n b=x.eP n b:=by simp[WS.eP]
theorem WS.eX(x:WS)(n:Nat)(hn:n<x.sys.length)(a:bL):(x.eP n a).sys[n]'(by simpa[WS.eP]using hn)=a:=by simp[WS.eP]
theorem BD.M8{T:List Nat}{w0 w:World}{x:WS}{r0:List ai}(h:BD T w0 w (x.ts++r0))(n:Nat)(hn:n<x.sys.length)(g:Nat)(hg:x.a3=some ⟨g,0,none⟩)(y:bL)(hy:x.sys[n]=y)(br:Int)(v:MT)(pt:Int):
  BD T w0 ((((((w.setCell ⟨g,n*11+5,none⟩ (.bool true)).setCell ⟨g,n*11+6,none⟩ (.int .i64 br)).setCell ⟨g,n*11+7,none⟩ (.int .i64 v.kind)).setCell ⟨g,n*11+8,none⟩ (.int .i64 v.num)).setCell ⟨g,n*11+9,none⟩ (.slice v.addr v.parts.length v.cap)).setCell ⟨g,n*11+10,none⟩ (.int .i64 pt)) ((x.eP n (y.qN br v pt)).ts++r0):=by
 have hl:∀a,n<(x.eP n a).sys.length:=fun a=>by simpa[WS.eP]using hn
 have h1:=h.fV n hn g hg 5 (by omega) (.bool true) y {y with done:=true} hy rfl;have h2:=h1.fV n (hl _) g hg 6 (by omega) (.int .i64 br) _ {y with done:=true,branch:=br} (x.eX n hn _) rfl;rw[WS.dD]at h2;have h3:=h2.fV n (hl _) g hg 7 (by omega) (.int .i64 v.kind) _ {y with done:=true,branch:=br,kind:=v.kind} (x.eX n hn _) rfl;rw[WS.dD]at h3;have h4:=h3.fV n (hl _) g hg 8 (by omega) (.int .i64 v.num) _ {y with done:=true,branch:=br,kind:=v.kind,num:=v.num} (x.eX n hn _) rfl;rw[WS.dD]at h4;have h5:=h4.fV n (hl _) g hg 9 (by omega) (.slice v.addr v.parts.length v.cap) _ {y with done:=true,branch:=br,kind:=v.kind,num:=v.num,lA:=v.addr,lN:=v.parts.length,lC:=v.cap} (x.eX n hn _) rfl;rw[WS.dD]at h5;have h6:=h5.fV n (hl _) g hg 10 (by omega) (.int .i64 pt) _ (y.qN br v pt) (x.eX n hn _) rfl;rw[WS.dD]at h6;exact h6
def wY(T:List Nat)(w:World)(x:WS)(k br:Int)(v:MT)(pt:Int)(b5 b6 b7 b8 b9:Nat)(en:Ending)(w':World):Prop:=∃er l' x',gN x k br v pt er x'/\l'=x'.ts++iq x k br v pt b5 b6 b7 b8 b9/\l5 T w er l' en w'
theorem Bo(T:List Nat)(w:World)(x:WS)(k br:Int)(v:MT)(pt:Int)(b5 b6 b7 b8 b9:Nat)(h:BD T w w (x.ts++iq x k br v pt b5 b6 b7 b8 b9))(hv:∀W,x.P W->v.In W)(hlen:x.sys.length<=1000000):
  Calls prog 237 #[b5,b6,b7,b8,b9] w (wY T w x k br v pt b5 b6 b7 b8 b9):=by
 have BG:=hdq h;have HV:=hdq hv;clear h hv;obtain⟨⟨p5,p6,p7,p8,q8,r8,p9⟩,z5,z6,z7,z8,z9⟩:=BD.iq (r:=[]) (by simpa only[List.append_nil]using BG.o);by_cases hk:0<=k/\k<(x.sys.length:Int)
 .obtain⟨n,rfl⟩:=Int.eq_ofNat_of_zero_le hk.1
  have hnk:n<x.sys.length:=by omega
  clear hk;obtain⟨g3,hg3,hx⟩:=BG.o.dU n hnk;clear hx;have HC:=hdq (BG.o.nC n hnk g3 hg3);have HG:=hdq hg3;clear hg3;obtain⟨ba,hba⟩:∃u,x.sys[n].jr=u:=⟨_,rfl⟩;obtain⟨bn,hbn⟩:∃u,x.sys[n].gm=u:=⟨_,rfl⟩;obtain⟨bc,hbc⟩:∃u,x.sys[n].jv=u:=⟨_,rfl⟩;obtain⟨dn,hdn⟩:∃u,x.sys[n].done=u:=⟨_,rfl⟩;have HB:=hdq hba;have HBN:=hdq hbn;have HBC:=hdq hbc;have HD:=hdq hdn;clear hba hbn hbc hdn;have HE2:Hid (¬((0<=br/\br<(bn:Int))/\v.plain.Ok/\(-1<=pt/\pt<(x.sys.length:Int)))->gN x (n:Int) br v pt 2 x):=fun hno=> .inr ⟨n,hnk,rfl,.inl ⟨by rw[HBN.o];exact hno,rfl,rfl⟩⟩;have OI:Hid (((0<=br/\br<(bn:Int))/\v.plain.Ok/\(-1<=pt/\pt<(x.sys.length:Int)))->dn=true->gN x (n:Int) br v pt 160 x):=fun hy hd=> .inr ⟨n,hnk,rfl,.inr ⟨by rw[HBN.o];exact hy,.inl ⟨HD.o.trans hd,rfl,rfl⟩⟩⟩;have HE0:Hid (((0<=br/\br<(bn:Int))/\v.plain.Ok/\(-1<=pt/\pt<(x.sys.length:Int)))->dn=false->∀v':MT,v'.plain=v.plain->gN x (n:Int) br v pt 0 ((x.knows (fun W=>∀t∈[v'],t.In W)).eP n (x.sys[n].qN br v' pt))):=fun hy hd v' hv'=> .inr ⟨n,hnk,rfl,.inr ⟨by rw[HBN.o];exact hy,.inr ⟨HD.o.trans hd,rfl,v',hv',rfl⟩⟩⟩;go_enter func237,ntmps237
  go_wp2_with fail
  refine HC.o.mono ?_;rintro e w1 ⟨rfl,ht⟩;have BB:=hdq (BG.o.touch ht);clear ht HC BG;clear p5 p6 p7 p8 q8 r8 p9 z5 z6 z7 z8 z9;obtain⟨⟨p5,p6,p7,p8,q8,r8,p9⟩,z5,z6,z7,z8,z9⟩:=BD.iq (r:=[]) (by simpa only[List.append_nil]using BB.o);have f1:w1.cell? ⟨g3,n*11+1,none⟩=some (.slice ba bn bc):=HB.o▸HBN.o▸HBC.o▸BB.o.jA n hnk g3 HG.o 1 (by omega);have zg:g3<w1.heap.size:=World.block_lt_of_cell? _ _ f1;by_cases hc1:0<=br
  .by_cases hc2:br<(bn:Int)
   .skip
    go_wp2_with fail
    go_quiet ((go_at_call 106;exact nW (require_ok _ _)))
    refine ax (Q:=Exit.then _ _) ?_;intro w2 hw2;have HL2:=hdq ((BB.o.drewN _).toW hw2);have D6:Hid (0<=br/\br<(bn:Int)):=⟨hc1,hc2⟩;clear hw2 BB f1 zg;clear p5 p6 p7 p8 q8 r8 p9 z5 z6 z7 z8 z9;obtain⟨⟨p5,p6,p7,p8,q8,r8,p9⟩,z5,z6,z7,z8,z9⟩:=BD.iq (r:=[]) (by simpa only[List.append_nil]using HL2.o);go_wp2_with fail
    refine(jH v w2 (HV.o _ (HL2.o.still 2 rfl))).mono ?_;rintro e w3 ⟨⟨z,rfl,hz,hiff⟩,ht⟩;have BF:=hdq (HL2.o.touch ht);clear ht HL2;clear p5 p6 p7 p8 q8 r8 p9 z5 z6 z7 z8 z9;obtain⟨⟨p5,p6,p7,p8,q8,r8,p9⟩,z5,z6,z7,z8,z9⟩:=BD.iq (r:=[]) (by simpa only[List.append_nil]using BF.o);by_cases hvo:v.plain.Ok
    .obtain rfl:=hiff.2 hvo
     have HVO:=hdq hvo;clear hvo hz hiff hc1 hc2;go_wp2_with fail
     refine(require_ok _ _).mono ?_;rintro e wq ⟨rfl,rfl⟩;dsimp only;obtain⟨w0',w1',w2',w3'⟩:=BF.o.Cb;have zw:=BF.o.Cb.lt;clear w0' w1' w2';by_cases hc1:(-1:Int)<=pt
     .by_cases hc2:pt<(x.sys.length:Int)
      .skip
       go_wp2_with fail
       go_quiet ((go_at_call 106;exact nW (require_ok _ _)))
       refine ax (Q:=Exit.then _ _) ?_;intro w4 hw4;have BH:=hdq ((BF.o.drewN _).toW hw4);have EC:Hid ((0<=br/\br<(bn:Int))/\v.plain.Ok/\(-1<=pt/\pt<(x.sys.length:Int))):=⟨⟨D6.o.1,D6.o.2⟩,HVO.o,⟨hc1,hc2⟩⟩;clear hw4 BF HE2 hc1 hc2;clear p5 p6 p7 p8 q8 r8 p9 z5 z6 z7 z8 z9;obtain⟨⟨p5,p6,p7,p8,q8,r8,p9⟩,z5,z6,z7,z8,z9⟩:=BD.iq (r:=[]) (by simpa only[List.append_nil]using BH.o);have f5:w4.cell? ⟨g3,n*11+5,none⟩=some (.bool dn):=HD.o▸BH.o.jA n hnk g3 HG.o 5 (by omega);have zg:g3<w4.heap.size:=World.block_lt_of_cell? _ _ f5;go_wp2_with fail
       cases dn with
       |true=>
        refine(aY _ _).mono ?_;rintro e wq ⟨rfl,rfl⟩;dsimp only;exact⟨rfl,160,_,x,OI.o EC.o rfl,rfl,⟨0,160,.inr ⟨rfl,rfl⟩,rfl⟩,BH.o⟩
       |false=>
        refine(require_ok _ _).mono ?_;rintro e wq ⟨rfl,rfl⟩;dsimp only;have LU:Hid (∀W,Touch [] w4 W->Calls prog 89 #[v.val] W (yu v W)):=fun W hW=>qG v W (HV.o _ ((BH.o.touch hW).still 2 rfl)) (by rw[<-MT.cu];exact EC.o.2.1.1);have HE:=hdq (HE0.o EC.o rfl);have BZ:=hdq (Touch.refl [] w4).drew;obtain⟨n5,n7,n8,n9⟩:=BH.o.comNe HG.o;have m7:=Ne.symm n7;have m8:=Ne.symm n8;have m9:=Ne.symm n9;clear HE0 OI EC f5 HD;go_wp2_with fail
        refine hrq (S:=fun w'=>w'.cell? ⟨b7,0,none⟩=some (.int .i64 br)/\w'.cell? ⟨b8,0,none⟩=some (.int .i64 v.kind)/\w'.cell? ⟨b8,1,none⟩=some (.int .i64 v.num)/\w'.cell? ⟨b8,2,none⟩=some (.slice v.addr v.parts.length v.cap)/\w'.cell? ⟨b9,0,none⟩=some (.int .i64 pt)) fun hHeld=>?_;refine tkq 0 44 ?_;refine tkq 1 45 ?_;refine tkq 2 46 ?_;refine tkq 3 47 ?_;refine tkq 4 48 ?_;refine tkq 5 49 ?_;refine tkq 7 51 ?_;refine rdq 6 rfl fun K hK=>?_;go_simp;refine(LU.o _ BZ.o).mono ?_;rintro en w5 ⟨v',rfl,hp,hin,hnew,ht⟩;have Ca:=hdq (BH.o.drew.IB ht [v'] (by simpa using hin) (by simpa using hnew));have HE5:=hdq (HE.o v' hp);obtain⟨y,hy⟩:∃y,x.sys[n]=y:=⟨_,rfl⟩;have Db:=hdq (Ca.o.M8 (x:=x.knows _) n hnk g3 HG.o y hy br v' pt);rw[hy]at HE5;clear hp hin hnew ht HE LU BZ HB HBN HBC hHeld;clear p5 p6 p7 p8 q8 r8 p9 z5 z6 z7 z8 z9;obtain⟨⟨p5,p6,p7,p8,q8,r8,p9⟩,z5,z6,z7,z8,z9⟩:=BD.iq (r:=[]) (by simpa only[List.append_nil]using Ca.o);have f5:w5.cell? ⟨g3,n*11+5,none⟩=some (.bool y.done):=hy▸Ca.o.jA (x:=x.knows _) n hnk g3 HG.o 5 (by omega);have zf5:=Ca.o.om (x:=x.knows _) g3 HG.o (n*11+5);have f6:w5.cell? ⟨g3,n*11+6,none⟩=some (.int .i64 y.branch):=hy▸Ca.o.jA (x:=x.knows _) n hnk g3 HG.o 6 (by omega);have zf6:=Ca.o.om (x:=x.knows _) g3 HG.o (n*11+6);have f7:w5.cell? ⟨g3,n*11+7,none⟩=some (.int .i64 y.kind):=hy▸Ca.o.jA (x:=x.knows _) n hnk g3 HG.o 7 (by omega);have zf7:=Ca.o.om (x:=x.knows _) g3 HG.o (n*11+7);have f8:w5.cell? ⟨g3,n*11+8,none⟩=some (.int .i64 y.num):=hy▸Ca.o.jA (x:=x.knows _) n hnk g3 HG.o 8 (by omega);have zf8:=Ca.o.om (x:=x.knows _) g3 HG.o (n*11+8);have f9:w5.cell? ⟨g3,n*11+9,none⟩=some (.slice y.lA y.lN y.lC):=hy▸Ca.o.jA (x:=x.knows _) n hnk g3 HG.o 9 (by omega);have zf9:=Ca.o.om (x:=x.knows _) g3 HG.o (n*11+9);have f10:w5.cell? ⟨g3,n*11+10,none⟩=some (.int .i64 y.partner):=hy▸Ca.o.jA (x:=x.knows _) n hnk g3 HG.o 10 (by omega);have zf10:=Ca.o.om (x:=x.knows _) g3 HG.o (n*11+10);have zg:g3<w5.heap.size:=World.block_lt_of_cell? _ _ f5;clear BH;simp only[MT.val,MT.sl];go_simp;refine kpq hK.o fun hHeld=>?_;clear hK K;refine tkq 8 52 ?_;refine tkq 9 53 ?_;have hl1:∀a,n<((x.knows (fun W=>∀t∈[v'],t.In W)).eP n a).sys.length:=fun a=>by simpa[WS.eP,WS.knows]using hnk
        have HS5:=hdq (Ca.o.fV (x:=x.knows _) n hnk g3 HG.o 5 (by omega) (.bool true) y {y with done:=true} hy rfl);have HS6:=hdq (HS5.o.fV n (hl1 _) g3 HG.o 6 (by omega) (.int .i64 br) _ {y with done:=true,branch:=br} (WS.eX (x.knows _) n hnk _) rfl);rw[WS.dD]at HS6;have HS7:=hdq (HS6.o.fV n (hl1 _) g3 HG.o 7 (by omega) (.int .i64 v'.kind) _ {y with done:=true,branch:=br,kind:=v'.kind} (WS.eX (x.knows _) n hnk _) rfl);rw[WS.dD]at HS7;have HS8:=hdq (HS7.o.fV n (hl1 _) g3 HG.o 8 (by omega) (.int .i64 v'.num) _ {y with done:=true,branch:=br,kind:=v'.kind,num:=v'.num} (WS.eX (x.knows _) n hnk _) rfl);rw[WS.dD]at HS8;have HS9:=hdq (HS8.o.fV n (hl1 _) g3 HG.o 9 (by omega) (.slice v'.addr v'.parts.length v'.cap) _ {y with done:=true,branch:=br,kind:=v'.kind,num:=v'.num,lA:=v'.addr,lN:=v'.parts.length,lC:=v'.cap} (WS.eX (x.knows _) n hnk _) rfl);rw[WS.dD]at HS9;have Ns:=hdq (HS9.o.fV n (hl1 _) g3 HG.o 10 (by omega) (.int .i64 pt) _ (y.qN br v' pt) (WS.eX (x.knows _) n hnk _) rfl);rw[WS.dD]at Ns;clear Db;obtain⟨⟨_,_,s7,t7,u7,v7,s9⟩,_⟩:=BD.iq (r:=[]) (by simpa only[List.append_nil]using HS5.o);refine rdq 10 rfl fun K hK=>?_;go_simp;refine hK.o _ _ ⟨s7,t7,u7,v7,s9⟩ (fun hHeld=>?_);clear hK K s7 t7 u7 v7 s9;(try simp only[Act.put,sAq,sZq,sSq])
        refine tkq 11 54 ?_;refine tkq 12 55 ?_;obtain⟨⟨_,_,s7,t7,u7,v7,s9⟩,_⟩:=BD.iq (r:=[]) (by simpa only[List.append_nil]using HS6.o);refine rdq 13 rfl fun K hK=>?_;go_simp;refine hK.o _ _ ⟨s7,t7,u7,v7,s9⟩ (fun hHeld=>?_);clear hK K s7 t7 u7 v7 s9;(try simp only[Act.put,sAq,sZq,sSq])
        refine tkq 14 56 ?_;refine tkq 15 57 ?_;obtain⟨⟨_,_,s7,t7,u7,v7,s9⟩,_⟩:=BD.iq (r:=[]) (by simpa only[List.append_nil]using HS9.o);refine rdq 16 rfl fun K hK=>?_;go_simp;refine hK.o _ _ ⟨s7,t7,u7,v7,s9⟩ (fun hHeld=>?_);clear hK K s7 t7 u7 v7 s9;(try simp only[Act.put,sAq,sZq,sSq])
        refine tkq 17 58 ?_;refine tkq 18 59 ?_;obtain⟨⟨_,_,s7,t7,u7,v7,s9⟩,_⟩:=BD.iq (r:=[]) (by simpa only[List.append_nil]using Ns.o);refine rdq 19 rfl fun K hK=>?_;go_simp;refine hK.o _ _ ⟨s7,t7,u7,v7,s9⟩ (fun hHeld=>?_);clear hK K s7 t7 u7 v7 s9;(try simp only[Act.put,sAq,sZq,sSq])
        refine dxq Ns fun w7 C8=>?_;clear HS5 HS6 HS7 HS8 HS9 Ns Ca f5 f6 f7 f8 f9 f10 zf5 zf6 zf7 zf8 zf9 zf10 zg hHeld p5 p6 p7 p8 q8 r8 p9;go_wp2;go_ret
        exact⟨0,_,_,HE5.o,rfl,⟨0,0,.inl ⟨rfl,rfl⟩,rfl⟩,C8.o⟩
      .have hd2:decide (pt<(x.sys.length:Int))=false:=decide_eq_false hc2
       go_wp2_with fail
       refine hrq (S:=fun w'=>w'.cell? ⟨b9,0,none⟩=some (.int .i64 pt)/\w'.cell? ⟨b5,0,none⟩=some (.pointer (some ⟨x.wb,0,none⟩))/\w'.cell? ⟨x.wb,3,none⟩=some (.slice x.a3 x.sys.length x.c3)) fun hHeld=>?_;refine tkq 0 26 ?_;refine tkq 1 27 ?_;refine tkq 2 28 ?_;refine tkq 3 29 ?_;refine tkq 4 30 ?_;refine tkq 5 31 ?_;refine tkq 6 32 ?_;refine tkq 7 33 ?_;refine tkq 8 34 ?_;refine tkq 9 35 ?_;refine tkq 10 36 ?_;refine rdq 11 rfl fun K hK=>?_;go_simp;(try rw[hd2])
       refine(aY _ _).mono ?_;rintro en wq ⟨rfl,rfl⟩;dsimp only;exact⟨rfl,2,_,x,HE2.o (fun h=>(fun h=>absurd h.2 (by omega)) h.2.2),rfl,⟨0,2,.inr ⟨rfl,rfl⟩,rfl⟩,BF.o.drew⟩
     .have hd1:decide ((-1:Int)<=pt)=false:=decide_eq_false hc1
      go_wp2_with fail
      refine hrq (S:=fun w'=>w'.cell? ⟨b9,0,none⟩=some (.int .i64 pt)/\w'.cell? ⟨b5,0,none⟩=some (.pointer (some ⟨x.wb,0,none⟩))/\w'.cell? ⟨x.wb,3,none⟩=some (.slice x.a3 x.sys.length x.c3)) fun hHeld=>?_;refine tkq 0 26 ?_;refine tkq 1 27 ?_;refine tkq 2 28 ?_;refine skq 3 29 ?_;refine skq 4 30 ?_;refine skq 5 31 ?_;refine skq 6 32 ?_;refine skq 7 33 ?_;refine skq 8 34 ?_;refine skq 9 35 ?_;refine tkq 10 36 ?_;refine rdq 11 rfl fun K hK=>?_;go_simp;(try rw[hd1])
      refine(aY _ _).mono ?_;rintro en wq ⟨rfl,rfl⟩;dsimp only;exact⟨rfl,2,_,x,HE2.o (fun h=>(fun h=>absurd h.1 (by omega)) h.2.2),rfl,⟨0,2,.inr ⟨rfl,rfl⟩,rfl⟩,BF.o.drew⟩
    .obtain rfl:z=40:=hz.resolve_left (fun h=>hvo (hiff.1 h))
     go_wp2_with fail
     refine(aY _ _).mono ?_;rintro e wq ⟨rfl,rfl⟩;dsimp only;exact⟨rfl,2,_,x,HE2.o (fun h=>hvo h.2.1),rfl,⟨0,2,.inr ⟨rfl,rfl⟩,rfl⟩,BF.o⟩
   .have hd2:decide (br<(bn:Int))=false:=decide_eq_false hc2
    go_wp2_with fail
    refine hrq (S:=fun w'=>w'.cell? ⟨b7,0,none⟩=some (.int .i64 br)/\w'.cell? ⟨g3,n*11+1,none⟩=some (.slice ba bn bc)) fun hHeld=>?_;refine tkq 0 10 ?_;refine tkq 1 11 ?_;refine tkq 2 12 ?_;refine tkq 3 13 ?_;refine tkq 4 14 ?_;refine tkq 5 15 ?_;refine tkq 6 16 ?_;refine tkq 7 17 ?_;refine tkq 8 18 ?_;refine tkq 9 19 ?_;refine tkq 10 20 ?_;refine rdq 11 rfl fun K hK=>?_;go_simp;(try rw[hd2])
    refine(aY _ _).mono ?_;rintro en wq ⟨rfl,rfl⟩;dsimp only;exact⟨rfl,2,_,x,HE2.o (fun h=>(fun h=>absurd h.2 (by omega)) h.1),rfl,⟨0,2,.inr ⟨rfl,rfl⟩,rfl⟩,BB.o.drew⟩
  .have hd1:decide (0<=br)=false:=decide_eq_false hc1
   go_wp2_with fail
   refine hrq (S:=fun w'=>w'.cell? ⟨b7,0,none⟩=some (.int .i64 br)/\w'.cell? ⟨g3,n*11+1,none⟩=some (.slice ba bn bc)) fun hHeld=>?_;refine tkq 0 10 ?_;refine tkq 1 11 ?_;refine tkq 2 12 ?_;refine skq 3 13 ?_;refine skq 4 14 ?_;refine skq 5 15 ?_;refine skq 6 16 ?_;refine skq 7 17 ?_;refine skq 8 18 ?_;refine skq 9 19 ?_;refine tkq 10 20 ?_;refine rdq 11 rfl fun K hK=>?_;go_simp;(try rw[hd1])
   refine(aY _ _).mono ?_;rintro en wq ⟨rfl,rfl⟩;dsimp only;exact⟨rfl,2,_,x,HE2.o (fun h=>(fun h=>absurd h.1 (by omega)) h.1),rfl,⟨0,2,.inr ⟨rfl,rfl⟩,rfl⟩,BB.o.drew⟩
 .have HE:Hid (gN x k br v pt 4 x):= .inl ⟨hk,rfl,rfl⟩
  have E9:=hdq (BG.o.fE k hk);clear hk;go_enter func237,ntmps237
  go_wp2_with fail
  refine E9.o.mono ?_;rintro e w1 ⟨rfl,ht⟩;dsimp only;exact⟨rfl,4,_,x,HE.o,rfl,⟨0,4,.inr ⟨rfl,rfl⟩,rfl⟩,BG.o.touch ht⟩
theorem qz(T:List Nat)(w:World)(x:WS)(k br:Int)(v:MT)(pt:Int)(h:BD T w w x.ts)(hv:∀W,x.P W->v.In W)(hlen:x.sys.length<=1000000):
  Calls prog 145 #[x.wb,k,br,v.val,pt] w fun en w'=>∃er x',en= .returned (.int .i64 er)/\gN x k br v pt er x'/\BD T w w' x'.ts:=by
 have Ep:= @mfq;have BG:=hdq h;clear h;simp only[MT.val,MT.sl];go_enter func145,ntmps145
 go_wp2_with fail
 refine ah ?_;intro w1 hw1;have BB:=hdq ((((((BG.o.alloc 48 #[x.wb]).alloc 3 #[k]).alloc 3 #[br]).alloc 58 #[v.kind,v.num,.slice v.addr v.parts.length v.cap]).alloc 3 #[pt]).toW hw1);simp only[World.size_alloc,List.append_assoc,cAq,nAq]at BB;generalize FK:w.heap.size+1+1+1+1=b9 at BB|-;generalize Kj:w.heap.size+1+1+1=b8 at BB|-;generalize EF:w.heap.size+1+1=b7 at BB|-;generalize hb6:w.heap.size+1=b6 at BB|-;generalize hb5:w.heap.size=b5 at BB|-;clear hw1 FK Kj EF hb6 hb5 BG;refine(yJ T w w1 _ _ _ (fun er l'=>∃x',gN x k br v pt er x'/\l'=x'.ts++iq x k br v pt b5 b6 b7 b8 b9) BB.o (enters_of func237 (by kernel_rfl) rfl) (fun T' W hW=>?_)).mono ?_
 .refine(Bo T' W x k br v pt b5 b6 b7 b8 b9 hW hv hlen).mono ?_
  rintro en w' ⟨er,l',x',hx,rfl,ht⟩;exact⟨er,_,⟨x',hx,rfl⟩,ht⟩
 rintro en w' ⟨er,l',rfl,⟨x',hx,rfl⟩,hL⟩;have HL2:=hdq hL.aF;have HX:=hdq hx;clear hL BB hx;dsimp only;go_wp2;go_ret
 exact⟨er,x',rfl,HX.o,HL2.o⟩
def dP.of(k:Int)(m:MS)(br:Int)(v:MT):dP:=⟨k,m.thread,br,m.flag,v.kind,v.num,v.addr,v.parts.length,v.cap⟩
def jo(x:WS)(ms:List MS)(k br:Int)(v:dP)(er:Int)(x':WS):Prop:=
 (¬(0<=k/\k<(ms.length:Int))/\er=4/\v=dP.zero/\x'=x)\/∃(n:Nat) (hn:n<ms.length),k=(n:Int)/\
  ((¬(0<=br/\br<(ms[n].bases.length:Int))/\er=2/\v=dP.zero/\x'=x)\/
   ∃(j:Nat) (hj:j<ms[n].bases.length) (v':MT),br=(j:Int)/\er=0/\v'.plain=ms[n].bases[j].v.plain/\v=dP.of k ms[n] br v'/\x'=x.knows (fun W=>v'.In W/\v'.nodes<=256))
def eZ(x:WS)(k br:Int)(b2 b3 b4:Nat):List ai:=[wB x b2,kB b3 k,kB b4 br]
theorem BD.eZ{T:List Nat}{w0 w:World}{x:WS}{m:List ai}{k br:Int}{b2 b3 b4:Nat}{r:List ai}(h:BD T w0 w (m++(Proofs.YtegejdlglonflaaGreatDoor.eZ x k br b2 b3 b4++r))):
  (w.cell? ⟨b2,0,none⟩=some (.pointer (some ⟨x.wb,0,none⟩))/\w.cell? ⟨b3,0,none⟩=some (.int .i64 k)/\w.cell? ⟨b4,0,none⟩=some (.int .i64 br))/\b2<w.heap.size/\b3<w.heap.size/\b4<w.heap.size:=by
 have h5:=h.box m.length (b:=b2) (t:=48) (cs:=#[.pointer (some ⟨x.wb,0,none⟩)]) (by simp[Proofs.YtegejdlglonflaaGreatDoor.eZ,wB]);have h6:=h.box (m.length+1) (b:=b3) (t:=3) (cs:=#[.int .i64 k]) (by simp[Proofs.YtegejdlglonflaaGreatDoor.eZ,kB]);have h7:=h.box (m.length+2) (b:=b4) (t:=3) (cs:=#[.int .i64 br]) (by simp[Proofs.YtegejdlglonflaaGreatDoor.eZ,kB]);exact⟨⟨h5.cell 0,h6.cell 0,h7.cell 0⟩,h5.lt,h6.lt,h7.lt⟩
def AO(T:List Nat)(w:World)(x:WS)(ms:List MS)(k br:Int)(b2 b3 b4:Nat)(en:Ending)(w':World):Prop:=∃(v:dP) (er:Int) (x':WS),jo x ms k br v er x'/\((er=0/\en= .returned v.val)\/(v=dP.zero/\en= .panicked (aX er)))/\BD T w w' (x'.ts++eZ x k br b2 b3 b4)
def oG(b:Nat):ai:=box b 58 #[(),(),True]
def rz(b:Nat)(v:MT):ai:=box b 58 #[v.kind,v.num,.slice v.addr v.parts.length v.cap]
theorem IG(T:List Nat)(w:World)(x:WS)(ms:List MS)(k br:Int)(b2 b3 b4:Nat)(h:BD T w w (x.ts++eZ x k br b2 b3 b4))(hms:x.sys=ms.map MS.raw)(hin:∀W,x.P W->∀m∈ms,m.In W):
  Calls prog 115 #[b2,b3,b4] w (AO T w x ms k br b2 b3 b4):=by
 have BG:=hdq h;have HMS:=hdq hms;have Ed:=hdq hin;have hlen:x.sys.length=ms.length:=by rw[hms];simp
 clear h hms hin;obtain⟨⟨p5,p6,p7⟩,z5,z6,z7⟩:=BD.eZ (r:=[]) (by simpa only[List.append_nil]using BG.o);go_enter func115,ntmps115
 go_wp2_with fail
 refine ah ?_;intro w1 hw1;have BB:Hid (BD T w w1 (x.ts++(eZ x k br b2 b3 b4++[dJ w.heap.size]))):=by
  have h1:=BG.o.DN hw1;rw[List.append_assoc]at h1;exact h1
 generalize hb5:w.heap.size=b5 at BB|-;clear hw1 hb5 BG;clear p5 p6 p7 z5 z6 z7;by_cases hk:0<=k/\k<(x.sys.length:Int)
 .obtain⟨n,rfl⟩:=Int.eq_ofNat_of_zero_le hk.1
  have hnk:n<x.sys.length:=by omega
  have hnm:n<ms.length:=by omega
  clear hk;obtain⟨g3,hg3,hx⟩:=BB.o.dU n hnk;clear hx;have HC:=hdq (BB.o.nC n hnk g3 hg3);have HG:=hdq hg3;clear hg3;refine HC.o.mono ?_;rintro e w2 ⟨rfl,ht⟩;have HL2:=hdq (BB.o.touch ht);clear ht HC BB;obtain⟨⟨p5,p6,p7⟩,z5,z6,z7⟩:=BD.eZ HL2.o;obtain⟨m,hm⟩:∃m,ms[n]=m:=⟨_,rfl⟩;have HA:Hid (∀(y:WS) W r,y.sys=x.sys->y.a3=x.a3->BD T w W (y.ts++r)->∀q,q<11->W.cell? ⟨g3,n*11+q,none⟩=m.raw.cells[q]?):=fun y W r hy1 hy3 hL q hq=>hm▸hL.Kt (hy1.trans HMS.o) n hnm g3 (hy3.trans HG.o) q hq;have HI:Hid (∀W,x.P W->m.In W):=fun W hW=>hm▸Ed.o W hW _ (List.getElem_mem hnm);have HE2:Hid (¬(0<=br/\br<(m.bases.length:Int))->jo x ms (n:Int) br dP.zero 2 x):=fun hno=> .inr ⟨n,hnm,rfl,.inl ⟨hm▸hno,rfl,rfl,rfl⟩⟩;have HE0:Hid (∀(j:Nat) (hj:j<m.bases.length) (v':MT),br=(j:Int)->v'.plain=m.bases[j].v.plain->jo x ms (n:Int) br (dP.of (n:Int) m br v') 0 (x.knows (fun W=>v'.In W/\v'.nodes<=256))):=fun j hj v' hb hv=> .inr ⟨n,hnm,rfl,.inr ⟨j,hm▸hj,v',hb,rfl,by subst hm;exact hv,by subst hm;rfl,rfl⟩⟩;clear hm;have f1:w2.cell? ⟨g3,n*11+1,none⟩=some (.slice m.ba m.bases.length m.bc):=HA.o x w2 _ rfl rfl HL2.o 1 (by omega);have zg:g3<w2.heap.size:=World.block_lt_of_cell? _ _ f1;by_cases hc1:0<=br
  .by_cases hc2:br<(m.bases.length:Int)
   .skip
    go_wp2_with fail
    go_quiet ((go_at_call 106;exact nW (require_ok _ _)))
    refine ax (Q:=Exit.then _ _) ?_;intro w3 hw3;have BF:=hdq ((HL2.o.drewN _).toW hw3);obtain⟨j,rfl⟩:=Int.eq_ofNat_of_zero_le hc1;have hj:j<m.bases.length:=by omega
    clear hw3 HL2 f1 zg HE2;clear p5 p6 p7 z5 z6 z7;obtain⟨⟨p5,p6,p7⟩,z5,z6,z7⟩:=BD.eZ BF.o;have HB:Hid (∀W,x.P W->∃b o,m.ba=some ⟨b,o,none⟩/\b<W.heap.size/\∀q,q<7->W.cell? ⟨b,o+j*7+q,none⟩=m.bases[j].cells[q]?):=fun W hW=>aG.at (f:=MB.cells) (fun _=>rfl) (HI.o W hW).2.1.1 j hj;have HIU:Hid (∀W,x.P W->m.bases[j].v.In W/\m.bases[j].v.nodes<=256):=fun W hW=>((HI.o W hW).2.1.2 _ (List.getElem_mem hj)).1;have HE:=hdq (fun v'=>HE0.o j hj v' rfl);clear HE0;generalize m.bases[j]=u at HB HIU HE;obtain⟨bb,oo,hba,_,_⟩:=HB.o _ (BF.o.still 2 rfl);have FD:=hdq hba;have HB2:Hid (∀W,x.P W->bb<W.heap.size/\W.cell? ⟨bb,oo+j*7+2,none⟩=some (.int .i64 u.v.kind)/\W.cell? ⟨bb,oo+j*7+3,none⟩=some (.int .i64 u.v.num)/\W.cell? ⟨bb,oo+j*7+4,none⟩=some (.slice u.v.addr u.v.parts.length u.v.cap)):=fun W hW=>by
     obtain⟨b',o',hb',hlt,hc⟩:=HB.o W hW;rw[FD.o]at hb';injection hb' with hb'
     injection hb' with h1 h2
     subst h1 h2;exact⟨hlt,hc 2 (by omega),hc 3 (by omega),hc 4 (by omega)⟩
    have HS:Hid (∀(y:WS) W r,y.sys=x.sys->y.a3=x.a3->(∀W,y.P W->x.P W)->BD T w W (y.ts++(eZ x (n:Int) (j:Int) b2 b3 b4++r))->(fun w'=>w'.cell? ⟨b4,0,none⟩=some (.int .i64 (j:Int))/\w'.cell? ⟨g3,n*11+1,none⟩=some (.slice m.ba m.bases.length m.bc)/\w'.cell? ⟨bb,oo+j*7+2,none⟩=some (.int .i64 u.v.kind)/\w'.cell? ⟨bb,oo+j*7+3,none⟩=some (.int .i64 u.v.num)/\w'.cell? ⟨bb,oo+j*7+4,none⟩=some (.slice u.v.addr u.v.parts.length u.v.cap)) W):=fun y W r h1 h2 h3 hL=>⟨(BD.eZ hL).1.2.2,HA.o y W _ h1 h2 hL 1 (by omega),(HB2.o W (h3 W (hL.still 2 rfl))).2⟩;have LU:Hid (∀W,Touch [] w3 W->Calls prog 89 #[u.v.val] W fun e w'=>∃t':MT,e= .returned t'.val/\t'.plain=u.v.plain/\BD [] W w' [aA fun W=>t'.In W/\t'.nodes<=256]):=fun W hW=>have hp:=HIU.o _ ((BF.o.touch hW).still 2 rfl);kr u.v W hp.1 hp.2;have f1:w3.cell? ⟨g3,n*11+1,none⟩=some (.slice m.ba m.bases.length m.bc):=HA.o x w3 _ rfl rfl BF.o 1 (by omega);obtain⟨zb,y2,y3,y4⟩:=HB2.o _ (BF.o.still 2 rfl);rw[hba]at f1;clear hba HB HIU;have BZ:=hdq (Touch.refl [] w3).drew;have hj0:(0:Int)<=(j:Int):=by omega
    have hj1:(j:Int)<(m.bases.length:Int):=by omega
    go_wp2_with fail
    rw[FD.o]at HS;refine wp_region_held_drew (S:=fun w'=>w'.cell? ⟨b4,0,none⟩=some (.int .i64 (j:Int))/\w'.cell? ⟨g3,n*11+1,none⟩=some (.slice (some ⟨bb,oo,none⟩) m.bases.length m.bc)/\w'.cell? ⟨bb,oo+j*7+2,none⟩=some (.int .i64 u.v.kind)/\w'.cell? ⟨bb,oo+j*7+3,none⟩=some (.int .i64 u.v.num)/\w'.cell? ⟨bb,oo+j*7+4,none⟩=some (.slice u.v.addr u.v.parts.length u.v.cap)) (by kernel_rfl) ?_ (fun hHeld=>?_)
    .exact HS.o x _ _ rfl rfl (fun _ h=>h) BF.o.drew
    refine tkq 0 21 ?_;refine tkq 1 22 ?_;refine tkq 2 23 ?_;refine tkq 3 24 ?_;refine tkq 4 25 ?_;refine tkq 5 26 ?_;refine tkq 6 27 ?_;refine tkq 7 28 ?_;refine wpAnyH_ready (rs:=[8,9]) (by kernel_rfl) (by simp) ?_;refine AllReadyH.cons rfl (fun K hK=>?_) (AllReadyH.cons rfl (fun K hK=>?_) AllReadyH.nil)
    .clear hHeld
     go_simp;refine(LU.o _ BZ.o).mono ?_;rintro en w4 ⟨v',rfl,hp,hL⟩;have BH:=hdq (BF.o.drew.uM hL);have HE4:=hdq (HE.o v' hp);clear hp hL HE LU BZ BF;clear p5 p6 p7 z5 z6 z7;clear f1 zb y2 y3 y4;simp only[MT.val,MT.sl];go_simp;refine hK.o _ _ (HS.o (x.knows (fun W=>v'.In W/\v'.nodes<=256)) w4 _ rfl rfl (fun W h=>h.1) BH.o) (fun hHeld=>?_);clear hK K;(try simp only[Act.put,sAq,sZq,sSq])
     have Ca:Hid (BD T w (w4.alloc (.cells #[(),(),True] 58)) ((x.knows (fun W=>v'.In W/\v'.nodes<=256)).ts++(eZ x (n:Int) (j:Int) b2 b3 b4++[dJ b5,oG w4.heap.size]))):=by
      have h:=BH.o.alloc 58 #[(),(),True];exact hdq (by simpa[oG]using h)
     refine rdq 9 rfl fun K hK=>?_;go_simp;refine hK.o _ _ (HS.o (x.knows (fun W=>v'.In W/\v'.nodes<=256)) _ _ rfl rfl (fun W h=>h.1) Ca.o) (fun hHeld=>?_);clear hK K BH;(try simp only[Act.put,sAq,sZq,sSq])
     generalize hb6:w4.heap.size=b6 at Ca|-;clear hb6;generalize w4.alloc (.cells #[(),(),True] 58)=w5 at Ca hHeld|-;have Db:=hdq (BD.aB (a:=[]) (b:=(x.knows (fun W=>v'.In W/\v'.nodes<=256)).ts++eZ x (n:Int) (j:Int) b2 b3 b4) (c:=[dJ b5,oG b6]) (by simpa using Ca.o));simp only[nAq,cAq,dJ,oG]at Db;obtain⟨q0,q1,q2,G9,G6,G5,zq,_,_⟩:=Db.o.c3 1 rfl;have C8:=hdq (((Db.o.set 1 rfl 0 (.int .i64 v'.kind)).set 1 rfl 1 (.int .i64 v'.num)).set 1 rfl 2 (.slice v'.addr v'.parts.length v'.cap));simp only[sSq,sZq,sAq]at C8;have EX:Hid (BD T w (((w5.setCell ⟨b6,0,none⟩ (.int .i64 v'.kind)).setCell ⟨b6,1,none⟩ (.int .i64 v'.num)).setCell ⟨b6,2,none⟩ (.slice v'.addr v'.parts.length v'.cap)) ((x.knows (fun W=>v'.In W/\v'.nodes<=256)).ts++(eZ x (n:Int) (j:Int) b2 b3 b4++[dJ b5,rz b6 v']))):=by
      have h:=BD.aB (a:=[]) (b:=[_,_]) (c:=(x.knows (fun W=>v'.In W/\v'.nodes<=256)).ts++eZ x (n:Int) (j:Int) b2 b3 b4) C8.o;exact hdq (by simpa[dJ,rz]using h)
     clear Db C8;refine rdq 10 rfl fun K hK=>?_;go_simp;refine hK.o _ _ (HS.o (x.knows (fun W=>v'.In W/\v'.nodes<=256)) _ _ rfl rfl (fun W h=>h.1) EX.o) (fun hHeld=>?_);clear hK K;(try simp only[Act.put,sAq,sZq,sSq])
     refine dxq EX fun w7 Rj=>?_;clear EX Ca q0 q1 q2 G9 G6 G5 zq hHeld HS;have HS4:Hid (∀W (e5:ai),BD T w W ((x.knows (fun W=>v'.In W/\v'.nodes<=256)).ts++(eZ x (n:Int) (j:Int) b2 b3 b4++[e5,rz b6 v']))->(fun w'=>w'.cell? ⟨b3,0,none⟩=some (.int .i64 (n:Int))/\w'.cell? ⟨b4,0,none⟩=some (.int .i64 (j:Int))/\w'.cell? ⟨g3,n*11,none⟩=some (.int .i64 m.thread)/\w'.cell? ⟨g3,n*11+3,none⟩=some (.int .i64 m.flag)/\w'.cell? ⟨b6,0,none⟩=some (.int .i64 v'.kind)/\w'.cell? ⟨b6,1,none⟩=some (.int .i64 v'.num)/\w'.cell? ⟨b6,2,none⟩=some (.slice v'.addr v'.parts.length v'.cap)) W):=fun W e5 hL=>by
      have hb:=hL.box ((x.knows (fun W=>v'.In W/\v'.nodes<=256)).ts.length+4) (b:=b6) (t:=58) (cs:=#[.int .i64 v'.kind,.int .i64 v'.num,.slice v'.addr v'.parts.length v'.cap]) (by simp[eZ,rz]);obtain⟨⟨_,h3,h4⟩,_⟩:=BD.eZ hL;exact⟨h3,h4,HA.o (x.knows (fun W=>v'.In W/\v'.nodes<=256)) W _ rfl rfl hL 0 (by omega),HA.o (x.knows (fun W=>v'.In W/\v'.nodes<=256)) W _ rfl rfl hL 3 (by omega),hb.cell 0,hb.cell 1,hb.cell 2⟩
     have hbe:∀W,(Instr.build 65 #[(0,.int .i64 (n:Int)),(1,.int .i64 m.thread),(2,.int .i64 (j:Int)),(3,.int .i64 m.flag),(4,.agg #[v'.kind,v'.num,.slice v'.addr v'.parts.length v'.cap])]).run prog W= .ok (.agg #[(n:Int),m.thread,(j:Int),m.flag,v'.kind,v'.num,.slice v'.addr v'.parts.length v'.cap]) W:=fun W=>run_build W 65 _ _ (by kernel_rfl);have hS0:=HS4.o _ _ Rj.o.drew;have Cf:=hdq (BD.aB (a:=[]) (b:=(x.knows (fun W=>v'.In W/\v'.nodes<=256)).ts++eZ x (n:Int) (j:Int) b2 b3 b4) (c:=[dJ b5,rz b6 v']) (by simpa using Rj.o));simp only[nAq,cAq,dJ]at Cf;obtain⟨q0,q1,q2,q3,q4,q5,q6,⟨G9,G6,G5,Ng,NG,L6,NH⟩,zq,_,_⟩:=Cf.o.c7 0 rfl;have FJ:=hdq (BD.drew (((((((Cf.o.set 0 rfl 0 (.int .i64 (n:Int))).set 0 rfl 1 (.int .i64 m.thread)).set 0 rfl 2 (.int .i64 (j:Int))).set 0 rfl 3 (.int .i64 m.flag)).set 0 rfl 4 (.int .i64 v'.kind)).set 0 rfl 5 (.int .i64 v'.num)).set 0 rfl 6 (.slice v'.addr v'.parts.length v'.cap)));simp only[sSq,sZq,sAq]at FJ;have DL:=hdq (BD.aB (a:=[]) (b:=[_,_]) (c:=(x.knows (fun W=>v'.In W/\v'.nodes<=256)).ts++eZ x (n:Int) (j:Int) b2 b3 b4) FJ.o);simp only[nAq,List.append_assoc]at DL;go_wp2_with fail
     refine wp_region_held_drew (S:=fun w'=>w'.cell? ⟨b3,0,none⟩=some (.int .i64 (n:Int))/\w'.cell? ⟨b4,0,none⟩=some (.int .i64 (j:Int))/\w'.cell? ⟨g3,n*11,none⟩=some (.int .i64 m.thread)/\w'.cell? ⟨g3,n*11+3,none⟩=some (.int .i64 m.flag)/\w'.cell? ⟨b6,0,none⟩=some (.int .i64 v'.kind)/\w'.cell? ⟨b6,1,none⟩=some (.int .i64 v'.num)/\w'.cell? ⟨b6,2,none⟩=some (.slice v'.addr v'.parts.length v'.cap)) (by kernel_rfl) ?_ (fun hHeld=>?_)
     .exact hS0
     refine tkq 0 30 ?_;refine tkq 1 31 ?_;refine tkq 2 32 ?_;refine tkq 3 33 ?_;refine tkq 4 34 ?_;refine tkq 5 35 ?_;refine tkq 6 36 ?_;refine tkq 7 37 ?_;refine tkq 8 38 ?_;refine tkq 9 39 ?_;refine tkq 10 40 ?_;refine tkq 11 41 ?_;refine rdq 12 rfl fun K hK=>?_;go_simp;refine hK.o _ _ (HS4.o _ _ DL.o) (fun hHeld=>?_);clear hK K;(try simp only[Act.put,sAq,sZq,sSq])
     refine dxq FJ fun w8 DI=>?_;clear Rj Cf FJ DL q0 q1 q2 q3 q4 q5 q6 G9 G6 G5 Ng NG L6 NH zq hHeld hS0 HS4 hbe;obtain⟨q0,q1,q2,q3,q4,q5,q6,_,zq,_,_⟩:=DI.o.c7 0 rfl;go_wp2;refine bodyPost_ret (v:=(dP.of (n:Int) m (j:Int) v').val) (by simp[results,results115,go_sem,q0,q1,q2,q3,q4,q5,q6,dP.val,dP.of]) rfl ?_;have h14:=BD.aB (a:=[]) (b:=[_,_]) (c:=(x.knows (fun W=>v'.In W/\v'.nodes<=256)).ts++eZ x (n:Int) (j:Int) b2 b3 b4) DI.o;exact⟨_,0,_,HE4.o,.inl ⟨rfl,rfl⟩,h14.aF⟩
    .clear hHeld
     have BH:Hid (BD T w (w3.drew.alloc (.cells #[(),(),True] 58)) (x.ts++(eZ x (n:Int) (j:Int) b2 b3 b4++[dJ b5,oG w3.heap.size]))):=by
      have h:=BF.o.drew.alloc 58 #[(),(),True];exact hdq (by simpa[oG]using h)
     have HT2:=hdq (BZ.o.alloc (.cells #[(),(),True] 58));go_simp;refine hK.o _ _ (HS.o x _ _ rfl rfl (fun W h=>h) BH.o) (fun hHeld=>?_);clear hK K BF;(try simp only[Act.put,sAq,sZq,sSq])
     generalize hb6:w3.heap.size=b6 at BH|-;clear hb6;clear p5 p6 p7 z5 z6 z7;clear f1 zb y2 y3 y4;refine rdq 8 rfl fun K hK=>?_;go_simp;clear hHeld;refine(LU.o _ HT2.o).mono ?_;rintro en w5 ⟨v',rfl,hp,hL⟩;have Ca:=hdq (BH.o.uM hL);have HE4:=hdq (HE.o v' hp);clear hp hL HE LU BZ HT2 BH;simp only[MT.val,MT.sl];go_simp;refine hK.o _ _ (HS.o (x.knows (fun W=>v'.In W/\v'.nodes<=256)) w5 _ rfl rfl (fun W h=>h.1) Ca.o) (fun hHeld=>?_);clear hK K;(try simp only[Act.put,sAq,sZq,sSq])
     have Db:=hdq (BD.aB (a:=[]) (b:=(x.knows (fun W=>v'.In W/\v'.nodes<=256)).ts++eZ x (n:Int) (j:Int) b2 b3 b4) (c:=[dJ b5,oG b6]) (by simpa using Ca.o));simp only[nAq,cAq,dJ,oG]at Db;obtain⟨q0,q1,q2,G9,G6,G5,zq,_,_⟩:=Db.o.c3 1 rfl;have C8:=hdq (((Db.o.set 1 rfl 0 (.int .i64 v'.kind)).set 1 rfl 1 (.int .i64 v'.num)).set 1 rfl 2 (.slice v'.addr v'.parts.length v'.cap));simp only[sSq,sZq,sAq]at C8;have EX:Hid (BD T w (((w5.setCell ⟨b6,0,none⟩ (.int .i64 v'.kind)).setCell ⟨b6,1,none⟩ (.int .i64 v'.num)).setCell ⟨b6,2,none⟩ (.slice v'.addr v'.parts.length v'.cap)) ((x.knows (fun W=>v'.In W/\v'.nodes<=256)).ts++(eZ x (n:Int) (j:Int) b2 b3 b4++[dJ b5,rz b6 v']))):=by
      have h:=BD.aB (a:=[]) (b:=[_,_]) (c:=(x.knows (fun W=>v'.In W/\v'.nodes<=256)).ts++eZ x (n:Int) (j:Int) b2 b3 b4) C8.o;exact hdq (by simpa[dJ,rz]using h)
     clear Db C8;refine rdq 10 rfl fun K hK=>?_;go_simp;refine hK.o _ _ (HS.o (x.knows (fun W=>v'.In W/\v'.nodes<=256)) _ _ rfl rfl (fun W h=>h.1) EX.o) (fun hHeld=>?_);clear hK K;(try simp only[Act.put,sAq,sZq,sSq])
     refine dxq EX fun w7 Rj=>?_;clear EX Ca q0 q1 q2 G9 G6 G5 zq hHeld HS;have HS4:Hid (∀W (e5:ai),BD T w W ((x.knows (fun W=>v'.In W/\v'.nodes<=256)).ts++(eZ x (n:Int) (j:Int) b2 b3 b4++[e5,rz b6 v']))->(fun w'=>w'.cell? ⟨b3,0,none⟩=some (.int .i64 (n:Int))/\w'.cell? ⟨b4,0,none⟩=some (.int .i64 (j:Int))/\w'.cell? ⟨g3,n*11,none⟩=some (.int .i64 m.thread)/\w'.cell? ⟨g3,n*11+3,none⟩=some (.int .i64 m.flag)/\w'.cell? ⟨b6,0,none⟩=some (.int .i64 v'.kind)/\w'.cell? ⟨b6,1,none⟩=some (.int .i64 v'.num)/\w'.cell? ⟨b6,2,none⟩=some (.slice v'.addr v'.parts.length v'.cap)) W):=fun W e5 hL=>by
      have hb:=hL.box ((x.knows (fun W=>v'.In W/\v'.nodes<=256)).ts.length+4) (b:=b6) (t:=58) (cs:=#[.int .i64 v'.kind,.int .i64 v'.num,.slice v'.addr v'.parts.length v'.cap]) (by simp[eZ,rz]);obtain⟨⟨_,h3,h4⟩,_⟩:=BD.eZ hL;exact⟨h3,h4,HA.o (x.knows (fun W=>v'.In W/\v'.nodes<=256)) W _ rfl rfl hL 0 (by omega),HA.o (x.knows (fun W=>v'.In W/\v'.nodes<=256)) W _ rfl rfl hL 3 (by omega),hb.cell 0,hb.cell 1,hb.cell 2⟩
     have hbe:∀W,(Instr.build 65 #[(0,.int .i64 (n:Int)),(1,.int .i64 m.thread),(2,.int .i64 (j:Int)),(3,.int .i64 m.flag),(4,.agg #[v'.kind,v'.num,.slice v'.addr v'.parts.length v'.cap])]).run prog W= .ok (.agg #[(n:Int),m.thread,(j:Int),m.flag,v'.kind,v'.num,.slice v'.addr v'.parts.length v'.cap]) W:=fun W=>run_build W 65 _ _ (by kernel_rfl);have hS0:=HS4.o _ _ Rj.o.drew;have Cf:=hdq (BD.aB (a:=[]) (b:=(x.knows (fun W=>v'.In W/\v'.nodes<=256)).ts++eZ x (n:Int) (j:Int) b2 b3 b4) (c:=[dJ b5,rz b6 v']) (by simpa using Rj.o));simp only[nAq,cAq,dJ]at Cf;obtain⟨q0,q1,q2,q3,q4,q5,q6,⟨G9,G6,G5,Ng,NG,L6,NH⟩,zq,_,_⟩:=Cf.o.c7 0 rfl;have FJ:=hdq (BD.drew (((((((Cf.o.set 0 rfl 0 (.int .i64 (n:Int))).set 0 rfl 1 (.int .i64 m.thread)).set 0 rfl 2 (.int .i64 (j:Int))).set 0 rfl 3 (.int .i64 m.flag)).set 0 rfl 4 (.int .i64 v'.kind)).set 0 rfl 5 (.int .i64 v'.num)).set 0 rfl 6 (.slice v'.addr v'.parts.length v'.cap)));simp only[sSq,sZq,sAq]at FJ;have DL:=hdq (BD.aB (a:=[]) (b:=[_,_]) (c:=(x.knows (fun W=>v'.In W/\v'.nodes<=256)).ts++eZ x (n:Int) (j:Int) b2 b3 b4) FJ.o);simp only[nAq,List.append_assoc]at DL;go_wp2_with fail
     refine wp_region_held_drew (S:=fun w'=>w'.cell? ⟨b3,0,none⟩=some (.int .i64 (n:Int))/\w'.cell? ⟨b4,0,none⟩=some (.int .i64 (j:Int))/\w'.cell? ⟨g3,n*11,none⟩=some (.int .i64 m.thread)/\w'.cell? ⟨g3,n*11+3,none⟩=some (.int .i64 m.flag)/\w'.cell? ⟨b6,0,none⟩=some (.int .i64 v'.kind)/\w'.cell? ⟨b6,1,none⟩=some (.int .i64 v'.num)/\w'.cell? ⟨b6,2,none⟩=some (.slice v'.addr v'.parts.length v'.cap)) (by kernel_rfl) ?_ (fun hHeld=>?_)
     .exact hS0
     refine tkq 0 30 ?_;refine tkq 1 31 ?_;refine tkq 2 32 ?_;refine tkq 3 33 ?_;refine tkq 4 34 ?_;refine tkq 5 35 ?_;refine tkq 6 36 ?_;refine tkq 7 37 ?_;refine tkq 8 38 ?_;refine tkq 9 39 ?_;refine tkq 10 40 ?_;refine tkq 11 41 ?_;refine rdq 12 rfl fun K hK=>?_;go_simp;refine hK.o _ _ (HS4.o _ _ DL.o) (fun hHeld=>?_);clear hK K;(try simp only[Act.put,sAq,sZq,sSq])
     refine dxq FJ fun w8 DI=>?_;clear Rj Cf FJ DL q0 q1 q2 q3 q4 q5 q6 G9 G6 G5 Ng NG L6 NH zq hHeld hS0 HS4 hbe;obtain⟨q0,q1,q2,q3,q4,q5,q6,_,zq,_,_⟩:=DI.o.c7 0 rfl;go_wp2;refine bodyPost_ret (v:=(dP.of (n:Int) m (j:Int) v').val) (by simp[results,results115,go_sem,q0,q1,q2,q3,q4,q5,q6,dP.val,dP.of]) rfl ?_;have h14:=BD.aB (a:=[]) (b:=[_,_]) (c:=(x.knows (fun W=>v'.In W/\v'.nodes<=256)).ts++eZ x (n:Int) (j:Int) b2 b3 b4) DI.o;exact⟨_,0,_,HE4.o,.inl ⟨rfl,rfl⟩,h14.aF⟩
   .have hd2:decide (br<(m.bases.length:Int))=false:=decide_eq_false hc2
    go_wp2_with fail
    refine hrq (S:=fun w'=>w'.cell? ⟨b4,0,none⟩=some (.int .i64 br)/\w'.cell? ⟨g3,n*11+1,none⟩=some (.slice m.ba m.bases.length m.bc)) fun hHeld=>?_;refine tkq 0 9 ?_;refine tkq 1 10 ?_;refine tkq 2 11 ?_;refine tkq 3 12 ?_;refine tkq 4 13 ?_;refine tkq 5 14 ?_;refine tkq 6 15 ?_;refine tkq 7 16 ?_;refine tkq 8 17 ?_;refine tkq 9 18 ?_;refine tkq 10 19 ?_;refine rdq 11 rfl fun K hK=>?_;go_simp;(try rw[hd2])
    refine(aY _ _).mono ?_;rintro en wq ⟨rfl,rfl⟩;dsimp only;exact⟨rfl,dP.zero,2,x,HE2.o (fun h=>(fun h=>absurd h.2 (by omega)) h),.inr ⟨rfl,rfl⟩,by have h2:=HL2.o.drew;rw[<-List.append_assoc]at h2;exact h2.aF⟩
  .have hd1:decide (0<=br)=false:=decide_eq_false hc1
   go_wp2_with fail
   refine hrq (S:=fun w'=>w'.cell? ⟨b4,0,none⟩=some (.int .i64 br)/\w'.cell? ⟨g3,n*11+1,none⟩=some (.slice m.ba m.bases.length m.bc)) fun hHeld=>?_;refine tkq 0 9 ?_;refine tkq 1 10 ?_;refine tkq 2 11 ?_;refine skq 3 12 ?_;refine skq 4 13 ?_;refine skq 5 14 ?_;refine skq 6 15 ?_;refine skq 7 16 ?_;refine skq 8 17 ?_;refine skq 9 18 ?_;refine tkq 10 19 ?_;refine rdq 11 rfl fun K hK=>?_;go_simp;(try rw[hd1])
   refine(aY _ _).mono ?_;rintro en wq ⟨rfl,rfl⟩;dsimp only;exact⟨rfl,dP.zero,2,x,HE2.o (fun h=>(fun h=>absurd h.1 (by omega)) h),.inr ⟨rfl,rfl⟩,by have h2:=HL2.o.drew;rw[<-List.append_assoc]at h2;exact h2.aF⟩
 .have HC:=hdq (BB.o.fE k hk)
  have HE:Hid (jo x ms k br dP.zero 4 x):= .inl ⟨by rw[<-hlen];exact hk,rfl,rfl,rfl⟩;refine HC.o.mono ?_;rintro e w2 ⟨rfl,ht⟩;dsimp only;have h2:=BB.o.touch ht;rw[<-List.append_assoc]at h2;exact⟨rfl,_,4,x,HE.o,.inr ⟨rfl,rfl⟩,h2.aF⟩
theorem zn(T:List Nat)(w:World)(x:WS)(ms:List MS)(k br:Int)(h:BD T w w x.ts)(hms:x.sys=ms.map MS.raw)(hin:∀W,x.P W->∀m∈ms,m.In W):
  Calls prog 38 #[x.wb,k,br] w fun e w'=>∃(v:dP) (er:Int) (x':WS),e= .returned (.tuple #[v.val,.int .i64 er])/\jo x ms k br v er x'/\BD T w w' x'.ts:=by
 have Ep:= @mfq;have BG:=hdq h;have HMS:=hdq hms;have Ed:=hdq hin;clear h hms hin;go_enter func38,ntmps38
 go_wp2_with fail
 refine ah ?_;intro w1 hw1;have BB:=hdq (((((BG.o.alloc 48 #[x.wb]).alloc 3 #[k]).alloc 3 #[br]).alloc 65 #[(),(),(),(),(),(),True]).toW hw1);simp only[World.size_alloc,List.append_assoc,cAq,nAq]at BB;generalize hb5:w.heap.size+1+1+1=b5 at BB|-;generalize hb4:w.heap.size+1+1=b4 at BB|-;generalize hb3:w.heap.size+1=b3 at BB|-;generalize hb2:w.heap.size=b2 at BB|-;clear hw1 hb5 hb4 hb3 hb2 BG;refine(rG T w w1 _ _ _ (fun v er l'=>∃x',jo x ms k br v er x'/\l'=x'.ts++eZ x k br b2 b3 b4++[dJ b5]) BB.o (enters_of func115 (by kernel_rfl) rfl) (fun T' W hW=>?_)).mono ?_
 .obtain⟨T2,hF,hb⟩:=BD.aN (m:=x.ts++eZ x k br b2 b3 b4) (r:=[dJ b5]) (by rw[List.append_assoc];exact hW)
  refine(IG T2 W x ms k br b2 b3 b4 hF HMS.o Ed.o).mono ?_;rintro en w' ⟨v,er,x',hx,he,hL⟩;exact⟨v,er,_,he,⟨x',hx,rfl⟩,hb _ _ hL⟩
 rintro en w2 ⟨v,er,l',rfl,⟨x',hx,rfl⟩,hL⟩;have HX:=hdq hx;have BF:=hdq (BD.aB (a:=[]) (b:=x'.ts++eZ x k br b2 b3 b4) (c:=[dJ b5]) (by simpa using hL));clear hL hx BB;simp only[nAq,cAq,dJ]at BF;unfold dP.val;dsimp only;obtain⟨q0,q1,q2,q3,q4,q5,q6,⟨G9,G6,G5,Ng,NG,L6,NH⟩,zq,_,_⟩:=BF.o.c7 0 rfl;have Ca:=hdq (((((((BF.o.set 0 rfl 0 (.int .i64 v.sync)).set 0 rfl 1 (.int .i64 v.thread)).set 0 rfl 2 (.int .i64 v.branch)).set 0 rfl 3 (.int .i64 v.flag)).set 0 rfl 4 (.int .i64 v.kind)).set 0 rfl 5 (.int .i64 v.num)).set 0 rfl 6 (.slice v.lA v.lN v.lC));simp only[sSq,sZq,sAq]at Ca;clear BF;go_wp2;refine aP ?_;intro w5 DC;have C8:=hdq (Ca.o.toW DC);clear DC Ca q0 q1 q2 q3 q4 q5 q6 G9 G6 G5 Ng NG L6 NH zq;obtain⟨q0,q1,q2,q3,q4,q5,q6,_,zq,_,_⟩:=C8.o.c7 0 rfl;refine bodyPost_ret (v:= .tuple #[v.val,.int .i64 er]) (by simp[results,results38,go_sem,q0,q1,q2,q3,q4,q5,q6,dP.val]) rfl ?_;refine⟨v,er,x',rfl,HX.o,?_⟩;have hz:BD T w w5 (x'.ts++eZ x k br b2 b3 b4++[_]):=BD.aB (a:=[]) (b:=[_]) C8.o;exact BD.aF (BD.aF hz)
structure RV where
 ca:Option Addr
 cn:Nat
 cc:Nat
 most:Int
 la:Option Addr
 ln:Nat
 lc:Nat
 ha:Option Addr
 hn:Nat
 hc:Nat
 oa:Option Addr
 on:Nat
 oc:Nat
 sa:Option Addr
 sn:Nat
 sc:Nat
def RV.val(v:RV):Value:= .agg #[.slice v.ca v.cn v.cc,v.most,.slice v.la v.ln v.lc,.slice v.ha v.hn v.hc,.slice v.oa v.on v.oc,.slice v.sa v.sn v.sc]
theorem BD.c6{T:List Nat}{w0 w:World}{l:List ai}{b t:Nat}(h:BD T w0 w l)(i:Nat){x0 x1 x2 x3 x4 x5:Value}(hi:l[i]? =some (Proofs.YtegejdlglonflaaGreatDoor.box b t #[x0,x1,x2,x3,x4,x5])):w.cell? ⟨b,0,none⟩=some x0/\w.cell? ⟨b,1,none⟩=some x1/\w.cell? ⟨b,2,none⟩=some x2/\w.cell? ⟨b,3,none⟩=some x3/\w.cell? ⟨b,4,none⟩=some x4/\w.cell? ⟨b,5,none⟩=some x5/\(w.frozen? ⟨b,0,none⟩=false/\w.frozen? ⟨b,1,none⟩=false/\w.frozen? ⟨b,2,none⟩=false/\w.frozen? ⟨b,3,none⟩=false/\w.frozen? ⟨b,4,none⟩=false/\w.frozen? ⟨b,5,none⟩=false)/\b<w.heap.size/\b<w.heap.size+1/\b<w.heap.size+1+1:=by
 have hb:=h.box i hi;have hl:=hb.lt;exact⟨hb.cell 0,hb.cell 1,hb.cell 2,hb.cell 3,hb.cell 4,hb.cell 5,⟨hb.frozen 0,hb.frozen 1,hb.frozen 2,hb.frozen 3,hb.frozen 4,hb.frozen 5⟩,hl,ltq hl,ltq (ltq hl)⟩
theorem kY(v:RV)(w:World)(k:Int)(hk:¬(0<=k/\k<(v.hn:Int))):Calls prog 150 #[v.val,k] w fun e w'=>e= .returned (.bool false)/\Touch [] w w':=by
 refine abM ?_ w;simp only[RV.val];by_cases h:0<=k
 .have d1:decide (0<=k)=true:=decide_eq_true h
  have d2:decide (k<(v.hn:Int))=false:=decide_eq_false (by omega);clear hk h;refine aai.go func150 ntmps150 ?_;refine go1 fun _=>?_;refine W.abg ?_;exact⟨(),trivial,rfl,rfl⟩
 .have d1:decide (0<=k)=false:=decide_eq_false h
  clear hk h;refine aai.go func150 ntmps150 ?_;refine go1 fun _=>?_;refine W.abg ?_;exact⟨(),trivial,rfl,rfl⟩
theorem jF(v:RV)(w:World)(k:Int)(hk:¬(0<=k/\k<(v.on:Int))):Calls prog 146 #[v.val,k] w fun e w'=>e= .returned (.bool false)/\Touch [] w w':=by
 refine abM ?_ w;simp only[RV.val];by_cases h:0<=k
 .have d1:decide (0<=k)=true:=decide_eq_true h
  have d2:decide (k<(v.on:Int))=false:=decide_eq_false (by omega);clear hk h;refine aai.go func146 ntmps146 ?_;refine go1 fun _=>?_;refine W.abg ?_;exact⟨(),trivial,rfl,rfl⟩
 .have d1:decide (0<=k)=false:=decide_eq_false h
  clear hk h;refine aai.go func146 ntmps146 ?_;refine go1 fun _=>?_;refine W.abg ?_;exact⟨(),trivial,rfl,rfl⟩
theorem ic(v:RV)(w:World)(k:Int)(hk:¬(0<=k/\k<(v.sn:Int))):Calls prog 134 #[v.val,k] w fun e w'=>e= .returned (.bool false)/\Touch [] w w':=by
 refine abM ?_ w;simp only[RV.val];by_cases h:0<=k
 .have d1:decide (0<=k)=true:=decide_eq_true h
  have d2:decide (k<(v.sn:Int))=false:=decide_eq_false (by omega);clear hk h;refine aai.go func134 ntmps134 ?_;refine go1 fun _=>?_;refine W.abg ?_;exact⟨(),trivial,rfl,rfl⟩
 .have d1:decide (0<=k)=false:=decide_eq_false h
  clear hk h;refine aai.go func134 ntmps134 ?_;refine go1 fun _=>?_;refine W.abg ?_;exact⟨(),trivial,rfl,rfl⟩
theorem iQ(w:World)(s:Int):Calls prog 223 #[s] w fun e w'=>e= .returned (.int .i64 (bM s))/\w=w':=by
 by_cases h:s=1\/s=2
 .exact vS w s (by omega)
 .have h1:s≠1:=fun h1=>h (.inl h1)
  have h2:s≠2:=fun h2=>h (.inr h2);have ho:jV s= -1:=by unfold jV;rw[if_neg h1,if_neg h2]
  have hoo:bM s=0:=by unfold bM;rw[if_neg h1,if_neg h2]
  clear h h1 h2;go_enter func223,ntmps223
  go_wp2_with fail
  refine(uH _ _).mono ?_;rintro e w' ⟨rfl,rfl⟩;rw[ho];go_wp2;go_ret
  exact⟨by rw[hoo];rfl,rfl⟩
theorem noq{G:Prop}(h:G:=by
  refine cr hC fun _ _=>?_;refine go ?_;refine W.abg ?_;exact⟨(),trivial,rfl,rfl⟩):G:=h
theorem Ju(v:RV)(w:World)(k s:Int)(e:ME)(hs:¬(s=1\/s=2)):Calls prog 132 #[v.val,k,s,e.val] w fun e w'=>e= .returned (.tuple #[v.val,(2:Int)])/\Touch [] w w':=by
 refine abM ?_ w;have hO:=abF fun W=>iQ W s;rw[show bM s=0 from by unfold bM;rw[if_neg (fun h=>hs (.inl h)),if_neg (fun h=>hs (.inr h))]]at hO;clear hs;simp only[RV.val,bB];refine aai.go func132 ntmps132 ?_;refine go3 fun _ _ _=>?_;refine cr hO fun _ _=>?_;refine go ?_;refine W.abg ?_;exact⟨(),trivial,rfl,rfl⟩
theorem NQ(v:RV)(w:World)(k s:Int)(e:ME)(hs:s=1\/s=2)(hk:¬(0<=k/\k<(v.hn:Int))):Calls prog 132 #[v.val,k,s,e.val] w fun e w'=>e= .returned (.tuple #[v.val,(4:Int)])/\Touch [] w w':=by
 refine abM ?_ w;have hO:=abF fun W=>iQ W s;have ho:(bM s==0)=false:=by unfold bM;rcases hs with rfl|rfl<;>rfl
 generalize bM s=oo at hO ho;clear hs;have hC:=aam fun W=>kY v W k hk;simp only[RV.val,bB,MT.val,MT.sl]at hC|-;refine aai.go func132 ntmps132 ?_;refine go3 fun _ _ _=>?_;refine cr hO fun _ _=>?_;refine go ?_;exact noq
theorem Ol(v:RV)(w:World)(k:Int)(hk:¬(0<=k/\k<(v.hn:Int))):Calls prog 56 #[v.val,k] w fun e w'=>e= .returned (.tuple #[v.val,false,(4:Int)])/\Touch [] w w':=by
 refine abM ?_ w;have hC:=aam fun W=>kY v W k hk;simp only[RV.val,bB,MT.val,MT.sl]at hC|-;refine aai.go func56 ntmps56 ?_;refine go2 fun _ _=>?_;exact noq
theorem zL(v:RV)(w:World)(k:Int)(hk:¬(0<=k/\k<(v.hn:Int))):Calls prog 59 #[v.val,k] w fun e w'=>e= .returned (.tuple #[v.val,(4:Int)])/\Touch [] w w':=by
 refine abM ?_ w;have hC:=aam fun W=>kY v W k hk;simp only[RV.val,bB,MT.val,MT.sl]at hC|-;refine aai.go func59 ntmps59 ?_;refine go2 fun _ _=>?_;exact noq
theorem Nn(v:RV)(w:World)(k:Int)(hk:¬(0<=k/\k<(v.on:Int))):Calls prog 54 #[v.val,k] w fun e w'=>e= .returned (.tuple #[v.val,(4:Int)])/\Touch [] w w':=by
 refine abM ?_ w;have hC:=aam fun W=>jF v W k hk;simp only[RV.val,bB,MT.val,MT.sl]at hC|-;refine aai.go func54 ntmps54 ?_;refine go2 fun _ _=>?_;exact noq
theorem OD(v:RV)(w:World)(k:Int)(e:ME)(hk:¬(0<=k/\k<(v.on:Int))):Calls prog 133 #[v.val,k,e.val] w fun e w'=>e= .returned (.tuple #[v.val,(4:Int)])/\Touch [] w w':=by
 refine abM ?_ w;have hC:=aam fun W=>jF v W k hk;simp only[RV.val,bB,MT.val,MT.sl]at hC|-;refine aai.go func133 ntmps133 ?_;refine go3 fun _ _ _=>?_;exact noq
theorem Ki(v:RV)(w:World)(k:Int)(hk:¬(0<=k/\k<(v.sn:Int))):Calls prog 47 #[v.val,k] w fun e w'=>e= .returned (.tuple #[v.val,(),(4:Int)])/\Touch [] w w':=by
 refine abM ?_ w;have hC:=aam fun W=>ic v W k hk;simp only[RV.val,bB,MT.val,MT.sl]at hC|-;refine aai.go func47 ntmps47 ?_;refine go2 fun _ _=>?_;exact noq
theorem NP(v:RV)(w:World)(k:Int)(hk:¬(0<=k/\k<(v.sn:Int))):Calls prog 85 #[v.val,k] w fun e w'=>e= .returned (.tuple #[v.val,(),(4:Int)])/\Touch [] w w':=by
 refine abM ?_ w;have hC:=aam fun W=>ic v W k hk;simp only[RV.val,bB,MT.val,MT.sl]at hC|-;refine aai.go func85 ntmps85 ?_;refine go2 fun _ _=>?_;exact noq
theorem zk(v:RV)(w:World)(k:Int)(hk:¬(0<=k/\k<(v.sn:Int))):Calls prog 49 #[v.val,k] w fun e w'=>e= .returned (.tuple #[v.val,(),(4:Int)])/\Touch [] w w':=by
 refine abM ?_ w;have hC:=aam fun W=>ic v W k hk;simp only[RV.val,bB,MT.val,MT.sl]at hC|-;refine aai.go func49 ntmps49 ?_;refine go2 fun _ _=>?_;exact noq
theorem wI(v:RV)(w:World)(k:Int)(hk:¬(0<=k/\k<(v.sn:Int))):Calls prog 51 #[v.val,k] w fun e w'=>e= .returned (.tuple #[v.val,(4:Int)])/\Touch [] w w':=by
 refine abM ?_ w;have hC:=aam fun W=>ic v W k hk;simp only[RV.val,bB,MT.val,MT.sl]at hC|-;refine aai.go func51 ntmps51 ?_;refine go2 fun _ _=>?_;exact noq
theorem Ap(v:RV)(w:World)(k:Int)(br:Int)(u:MT)(pt:Int)(hk:¬(0<=k/\k<(v.sn:Int))):Calls prog 86 #[v.val,k,br,u.val,pt] w fun e w'=>e= .returned (.tuple #[v.val,(4:Int)])/\Touch [] w w':=by
 refine abM ?_ w;have hC:=aam fun W=>ic v W k hk;simp only[RV.val,bB,MT.val,MT.sl]at hC|-;refine aai.go func86 ntmps86 ?_;refine go3 fun _ _ _=>?_;exact noq
theorem JY(v:RV)(w:World)(k:Int)(br:Int)(hk:¬(0<=k/\k<(v.sn:Int))):Calls prog 130 #[v.val,k,br] w fun e w'=>e= .returned (.tuple #[.agg #[(),(),(),(),(),(),True],(4:Int)])/\Touch [] w w':=by
 refine abM ?_ w;have hC:=aam fun W=>ic v W k hk;simp only[RV.val,bB,MT.val,MT.sl]at hC|-;refine aai.go func130 ntmps130 ?_;refine go2 fun _ _=>?_;exact noq
theorem Nt(v:RV)(w:World)(k:Int)(hk:¬(0<=k/\k<(v.sn:Int))):Calls prog 58 #[v.val,k] w fun e w'=>e= .returned (.tuple #[v.val,false,(4:Int)])/\Touch [] w w':=by
 refine abM ?_ w;have hC:=aam fun W=>zk v W k hk;simp only[RV.val,bB,MT.val,MT.sl]at hC|-;refine aai.go func58 ntmps58 ?_;refine go2 fun _ _=>?_;refine cr hC fun _ _=>?_;refine go1 fun _=>?_;refine W.abg ?_;exact⟨(),trivial,rfl,rfl⟩
end Go.Proofs.YtegejdlglonflaaGreatDoor
