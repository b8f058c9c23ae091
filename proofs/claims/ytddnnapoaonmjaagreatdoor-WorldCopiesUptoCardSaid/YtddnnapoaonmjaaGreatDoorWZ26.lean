/-
  Texts of WorldCopies, laid together by program.
-/
import Derived.Test.YtddnnapoaonmjaaGreatDoorWZ25
import Derived.IntWalk
namespace Go.Proofs.YtddnnapoaonmjaaGreatDoor
open Go.RowKit Go.Shelf Go.Proofs.Tryz
set_option maxRecDepth 100000
set_option maxHeartbeats 8000000
set_option linter.unusedVariables false
set_option linter.unusedSimpArgs false
theorem none16(v:MT)(w:World):Calls prog 288 #[v.val] w (aI v.E8 w):=by
 have HT:Hid (Touch [] w (w.alloc (.cells #[v.kind,v.num,.slice v.addr v.parts.length v.cap] 45))):=(Touch.refl [] w).alloc _;have z1:w.heap.size<w.heap.size+1:=by omega
 have HY:Hid (v.E8->aI v.E8 w (.returned (.bool true)) (w.alloc (.cells #[v.kind,v.num,.slice v.addr v.parts.length v.cap] 45))):=fun h=>⟨true,rfl,by simp[h],HT.o⟩;have HN:Hid (¬v.E8->aI v.E8 w (.returned (.bool false)) (w.alloc (.cells #[v.kind,v.num,.slice v.addr v.parts.length v.cap] 45))):=fun h=>⟨false,rfl,by simp[h],HT.o⟩;obtain⟨p,hp⟩:∃p,v.E8=p:=⟨_,rfl⟩;simp only[MT.val,MT.sl];by_cases h1:v.kind=0
 .by_cases h2:v.num=0
  .by_cases h3:v.parts.length=0
   .have HE:=hdq (HY.o ⟨h1,h2,h3⟩)
    rw[h1,h2,h3]at HE|-;go_enter func288,ntmps288
    go_wp2;go_ret
    exact HE.o
   .have HE:=hdq (HN.o (fun h=>h3 h.2.2))
    have h3':((v.parts.length:Int)==0)=false:=by simp;exact fun h=>h3 (by simp[h])
    rw[h1,h2]at HE|-;go_enter func288,ntmps288
    go_wp2;go_ret
    exact HE.o
  .have HE:=hdq (HN.o (fun h=>h2 h.2.1))
   rw[h1]at HE|-;have h2':decide (v.num=0)=false:=decide_eq_false h2;go_enter func288,ntmps288
   go_wp2;go_ret
   exact HE.o
 .have HE:=hdq (HN.o (fun h=>h1 h.1))
  have h1':decide (v.kind=0)=false:=decide_eq_false h1;go_enter func288,ntmps288
  go_wp2;go_ret
  exact HE.o
def xW(k:Int)(l:List Int)(w:World):Ending->World->Prop:=aI (k∈l) w
theorem Oy(w:World)(a:Option Addr)(c:Nat)(l:List Int)(k:Int)(h:aG w a 1 l.length (l.flatMap fq)):Calls prog 287 #[k,.slice a l.length c] w (xW k l w):=by
 have HR:=hdq h;have hl6:=h.1;have DJ:Hid (k∉l->∀W,Touch [] w W->xW k l w (.returned (.bool false)) W):=fun h W hW=>⟨false,rfl,by simp[h],hW⟩;have Dj:Hid (k∈l->∀W,Touch [] w W->xW k l w (.returned (.bool true)) W):=fun h W hW=>⟨true,rfl,by simp[h],hW⟩;clear h;go_enter func287,ntmps287
 go_wp2;go_loopw [5] (fun p wr=>∃j:Nat,p= .int .i64 (j:Int)/\j<=l.length/\Hid (Touch [] w wr)/\Hid (∀i (g:i<l.length),i<j->l[i]≠k)) (fun p _=>l.length-(intOf p).toNat)
 case atStart=>exact⟨0,rfl,Nat.zero_le _,Touch.refl _ _,fun i g h0=>absurd h0 (Nat.not_lt_zero _)⟩
 case round=>
  obtain⟨j,rfl,hj,HT,HA⟩:=hrel;have hj0:(0:Int)<=(j:Int):=by omega
  by_cases hjl:j<l.length
  .have Cc:(j:Int)<(l.length:Int):=by omega
   obtain⟨b,o,hba,hb,hc⟩:=aG.at (f:=fq) (fun _=>rfl) (HR.o.aW HT.o) j hjl;have hm:=hc 0 Nat.one_pos;have MZ:=hdq (List.getElem_mem hjl);have HJ:Hid (l[j]≠k->∀i (g:i<l.length),i<j+1->l[i]≠k):=fun h i g hi=>by
    by_cases hij:i=j
    .subst hij;exact h
    .exact HA.o i g (by omega)
   obtain⟨y,hy⟩:∃y,l[j]=y:=⟨_,rfl⟩;rw[hy,Nat.mul_one,Nat.add_zero]at hm;have hm2:wr.cell? ⟨b,o+j,none⟩=some (.int .i64 y):=hm;rw[hy]at MZ HJ;have FD:=hdq hba;rw[hba];clear hc hy hm hba;by_cases hq:y=k
   .have hb0:(y==k)=true:=by simp[hq]
    have HE:=hdq (Dj.o (hq▸MZ.o) wr HT.o);clear hq HJ HA MZ;go_wp2;go_ret
    exact HE.o
   .have hb0:(y==k)=false:=by simp[hq]
    have HA2:=hdq (HJ.o hq);clear hq HJ HA MZ;go_wp2;go_roundw
    case rel=>exact⟨j+1,by go_num,by omega,HT,HA2⟩
    case measure=>simp[intOf];omega
  .have Cc:¬(j:Int)<(l.length:Int):=by omega
   have HE:=hdq (DJ.o (fun h=>by
    obtain⟨q,hq,he⟩:=List.getElem_of_mem h;exact HA.o q hq (by omega) he) wr HT.o)
   go_wp2;go_ret
   exact HE.o
def jQ(n1 n2:Nat)(l:List Int)(b:MB)(w:World):Ending->World->Prop:=aI (eD n1 n2 l b) w
theorem base16(v:RV)(b:MB)(w:World)(hb:b.Mem w)(hbig:b.Big)(a:Option Addr)(c:Nat)(l:List Int)(hl:aG w a 1 l.length (l.flatMap fq)):Calls prog 272 #[v.val,b.val,.slice a l.length c] w (jQ v.hn v.on l b w):=by
 have HB:=hdq hb;have HG:=hdq hbig;have hdl:b.wraps.length<=2000000/\b.aT.length<=2000000:=⟨hb.2.1.1.1,hb.2.2.1⟩;have HAM:=hdq (fun W (hW:Touch [] w W) k=>Oy W a c l k (hl.aW hW));have FU:Hid (∀W,Touch [] w W->Calls prog 248 #[.agg #[b.v.kind,b.v.num,.slice b.v.addr b.v.parts.length b.v.cap]] W (aI b.v.plain.Ok W)):=fun W hW=>sN b.v W (hb.1.aO hW) hbig.1;have FO:Hid (∀W,Touch [] w W->Calls prog 288 #[.agg #[b.v.kind,b.v.num,.slice b.v.addr b.v.parts.length b.v.cap]] W (aI b.v.E8 W)):=fun W hW=>none16 b.v W;have DJ:Hid (∀W,Touch [] w W->¬eD v.hn v.on l b->jQ v.hn v.on l b w (.returned (.bool false)) W):=fun W hW h=>⟨false,rfl,by simp[h],hW⟩;have HBO:Hid (∀W (f:Bool),Touch [] w W->(f=true↔eD v.hn v.on l b)->jQ v.hn v.on l b w (.returned (.bool f)) W):=fun W f hW h=>⟨f,rfl,h,hW⟩;clear hb hbig hl;simp only[MB.val,RV.val];go_enter func272,ntmps272
 go_upto_region 1 with fail
 refine ay ?_;intro w2 hw2;have HL2:=hdq ((BD.nil' w).DZ hw2);simp only[nAq]at HL2;generalize hb4:w.heap.size+1=b4 at HL2|-;generalize hb3:w.heap.size=b3 at HL2|-;clear hw2 hb4 hb3;obtain⟨x0,x1,x2,x3,x4,x5,x6,_,zx,_,_⟩:=HL2.o.c7 1 rfl;by_cases h2:b.wraps.length<=32
 .have d2:decide ((32:Int)<(b.wraps.length:Int))=false:=decide_eq_false (by omega)
  by_cases h3:b.aT.length<=32
  .have d3:decide ((32:Int)<(b.aT.length:Int))=false:=decide_eq_false (by omega)
   have H23:Hid (b.wraps.length<=32/\b.aT.length<=32):=⟨h2,h3⟩;go_wp2;have LV:=hdq (fun W (hW:Touch [] w2 W)=>((HL2.o.touch hW).c7 1 rfl).2.2.2.2.2.1);have HB7:=hdq (fun W (hW:Touch [] w2 W)=>(HL2.o.touch hW).c7 1 rfl);have HR6:=hdq (fun W (hW:Touch [] w2 W)=>(HL2.o.touch hW).c6 0 rfl);have HT0:=hdq HL2.o.BN;have OO:=hdq (fun W (hW:Touch [] w2 W)=>(HB.o.aW (HT0.o.trans' hW)).2.1);have Gb:=hdq (fun W (hW:Touch [] w2 W)=>(HB.o.aW (HT0.o.trans' hW)).2.2);clear x0 x1 x2 x3 x4 x5 x6 zx HL2 d2 d3;go_loopw [7] (fun p wr=>∃i:Nat,p= .int .i64 (i:Int)/\i<=b.wraps.length/\Hid (Touch [] w2 wr)/\Hid (∀q (hq:q<b.wraps.length),q<i->∀t∈b.wraps[q].args,t.plain.Ok)) (fun p _=>b.wraps.length-(intOf p).toNat)
   case atStart=>exact⟨0,rfl,Nat.zero_le _,Touch.refl _ _,fun q hq h0=>absurd h0 (Nat.not_lt_zero _)⟩
   case round=>
    obtain⟨i,rfl,hi,HT,HA⟩:=hrel;have hi0:(0:Int)<=(i:Int):=by omega
    have x5:=LV.o wr HT.o;have zx:=World.block_lt_of_cell? _ _ x5;by_cases hil:i<b.wraps.length
    .have EM:(i:Int)<(b.wraps.length:Int):=by omega
     obtain⟨bw,ow,hba,hbw,hcc⟩:=aG.at (f:=MC.cells) (fun _=>rfl) (OO.o wr HT.o).1 i hil;have HCM:=hdq (fun W (hW:Touch [] w2 W)=>(OO.o W hW).2 _ (List.getElem_mem hil));have HGC:=hdq (HG.o.2 _ (List.getElem_mem hil));have Fw:Hid (¬(∀t∈b.wraps[i].args,t.plain.Ok)->∀W,Touch [] w W->jQ v.hn v.on l b w (.returned (.bool false)) W):=fun h W hW=>DJ.o W hW (fun h2=>h (h2.2.2.2.1 _ (List.getElem_mem hil)));have Fz:Hid ((∀t∈b.wraps[i].args,t.plain.Ok)->∀q (hq:q<b.wraps.length),q<i+1->∀t∈b.wraps[q].args,t.plain.Ok):=fun h q hq hqi=>by
      by_cases hqe:q=i
      .subst hqe;exact h
      .exact HA.o q hq (by omega)
     obtain⟨cm,hcm⟩:∃cm,b.wraps[i]=cm:=⟨_,rfl⟩;have Uu:Hid (∀W,Touch [] w2 W->W.cell? ⟨bw,ow+i*2+1,none⟩=some (.slice cm.a cm.args.length cm.cap)):=fun W hW=>by
      obtain⟨bw',ow',DF,_,hcc'⟩:=aG.at (f:=MC.cells) (fun _=>rfl) (OO.o W hW).1 i hil;rw[hba]at DF;injection DF with DF
      injection DF with g1 g2
      subst g1 g2;rw[<-hcm];exact hcc' 1 (by omega)
     rw[hcm]at HCM Fw Fz HGC;have FD:=hdq hba;have hcl:=(HCM.o wr HT.o).1.1;rw[hba]at x5;clear hcc hcm hba hbw;go_wp2;have F6:=hdq HT.o;clear HT x5 zx;go_loopw [8] (fun p wr2=>∃j:Nat,p= .int .i64 (j:Int)/\j<=cm.args.length/\Hid (Touch [] w2 wr2)/\Hid (∀q (hq:q<cm.args.length),q<j->cm.args[q].plain.Ok)) (fun p _=>cm.args.length-(intOf p).toNat)
     case atStart=>exact⟨0,rfl,Nat.zero_le _,F6,fun q hq h0=>absurd h0 (Nat.not_lt_zero _)⟩
     case round=>
      obtain⟨j,rfl,hj,HT,HJ⟩:=hrel;clear F6;have hj0:(0:Int)<=(j:Int):=by omega
      have x5:=LV.o wr HT.o;have zx:=World.block_lt_of_cell? _ _ x5;have q1':=Uu.o wr HT.o;have zq:=World.block_lt_of_cell? _ _ q1';rw[FD.o]at x5;by_cases hjl:j<cm.args.length
      .have Cc:(j:Int)<(cm.args.length:Int):=by omega
       obtain⟨ba,oa,OY,hbb,k0,k1,k2⟩:=(HCM.o wr HT.o).1.2.cellAt hjl;have Gc:=hdq (sN cm.args[j] wr ((HCM.o wr HT.o).2 _ (List.getElem_mem hjl)) (HGC.o _ (List.getElem_mem hjl)));have EK:Hid (¬cm.args[j].plain.Ok->∀W,Touch [] w W->jQ v.hn v.on l b w (.returned (.bool false)) W):=fun h W hW=>Fw.o (fun h2=>h (h2 _ (List.getElem_mem hjl))) W hW;have EL:Hid (cm.args[j].plain.Ok->∀q (hq:q<cm.args.length),q<j+1->cm.args[q].plain.Ok):=fun h q hq hqj=>by
        by_cases hqe:q=j
        .subst hqe;exact h
        .exact HJ.o q hq (by omega)
       generalize cm.args[j]=u at k0 k1 k2 Gc EK EL;simp only[MT.sl]at k2;rw[eG]at Gc;rw[OY]at q1';clear OY;go_wp2_with fail
       refine Gc.o.mono ?_;rintro e w6 ⟨f,rfl,hf,ht⟩;have Fu:=hdq (HT.o.trans' ht);cases f with
       |true=>
        have HJ2:=hdq (EL.o (hf.1 rfl));clear ht HT hf EK EL x5 zx q1' zq k0 k1 k2 hbb Gc;go_wp2;go_roundw
        case rel=>exact⟨j+1,by go_num,by omega,Fu,HJ2⟩
        case measure=>simp[intOf];omega
       |false=>
        have HE:=hdq (EK.o (fun h=>by have :=hf.2 h;simp at this) w6 (HT0.o.trans' Fu.o));clear ht HT hf EK EL x5 zx q1' zq k0 k1 k2 hbb Gc;go_wp2;go_ret
        exact HE.o
      .have Cc:¬(j:Int)<(cm.args.length:Int):=by omega
       have HA2:=hdq (Fz.o (fun t ht=>by
        obtain⟨q,hq,rfl⟩:=List.getElem_of_mem ht;exact HJ.o q hq (by omega)))
       clear Fz HJ Fw;go_wp2;go_roundw
       case rel=>exact⟨i+1,by go_num,by omega,HT,HA2⟩
       case measure=>simp[intOf];omega
    .have EM:¬(i:Int)<(b.wraps.length:Int):=by omega
     have HAW:Hid (∀cm∈b.wraps,∀t∈cm.args,t.plain.Ok):=fun cm hm=>by
      obtain⟨q,hq,rfl⟩:=List.getElem_of_mem hm;exact HA.o q hq (by omega)
     have Fy:=hdq HT.o;clear HA OO;go_wp2;clear x5 zx LV;have HBY:=hdq (fun W (hW:Touch [] w2 W)=>(HB7.o W hW).2.2.2.2.2.2.1);go_loopw [9] (fun p wr2=>∃j:Nat,p= .int .i64 (j:Int)/\j<=b.aT.length/\Hid (Touch [] w2 wr2)/\Hid (∀q (hq:q<b.aT.length),q<j->b.aT[q]∈l)) (fun p _=>b.aT.length-(intOf p).toNat)
     case atStart=>exact⟨0,rfl,Nat.zero_le _,Fy,fun q hq h0=>absurd h0 (Nat.not_lt_zero _)⟩
     case round=>
      clear Fy HT hil EM hi hi0;obtain⟨j,rfl,hj,HT,HJ⟩:=hrel;have hj0:(0:Int)<=(j:Int):=by omega
      have x6:=HBY.o wr HT.o;have zx:=World.block_lt_of_cell? _ _ x6;by_cases hjl:j<b.aT.length
      .have Cc:(j:Int)<(b.aT.length:Int):=by omega
       obtain⟨bb,oo,hbb,zbb,hcc⟩:=aG.at (f:=fq) (fun _=>rfl) (Gb.o wr HT.o) j hjl;have EK:Hid (b.aT[j]∉l->∀W,Touch [] w W->jQ v.hn v.on l b w (.returned (.bool false)) W):=fun h W hW=>DJ.o W hW (fun h2=>h (h2.2.2.2.2 _ (List.getElem_mem hjl)));have EL:Hid (b.aT[j]∈l->∀q (hq:q<b.aT.length),q<j+1->b.aT[q]∈l):=fun h q hq hqj=>by
        by_cases hqe:q=j
        .subst hqe;exact h
        .exact HJ.o q hq (by omega)
       have q0:=hcc 0 Nat.one_pos;generalize b.aT[j]=k at EK EL q0;rw[Nat.mul_one,Nat.add_zero]at q0;have q0':wr.cell? ⟨bb,oo+j,none⟩=some (.int .i64 k):=q0;have JB:=hdq (HAM.o wr (HT0.o.trans' HT.o) k);rw[hbb]at x6;clear hcc q0 hbb;go_wp2_with fail
       refine JB.o.mono ?_;rintro e w6 ⟨f,rfl,hf,ht⟩;have Fu:=hdq (HT.o.trans' ht);cases f with
       |true=>
        have HJ2:=hdq (EL.o (hf.1 rfl));clear ht HT hf EK EL x6 zx q0' zbb JB HJ;go_wp2;go_roundw
        case rel=>exact⟨j+1,by go_num,by omega,Fu,HJ2⟩
        case measure=>simp[intOf];omega
       |false=>
        have HE:=hdq (EK.o (fun h=>by have :=hf.2 h;simp at this) w6 (HT0.o.trans' Fu.o));clear ht HT hf EK EL x6 zx q0' zbb JB HJ;go_wp2;go_ret
        exact HE.o
      .have Cc:¬(j:Int)<(b.aT.length:Int):=by omega
       have HAN:Hid (∀k∈b.aT,k∈l):=fun k hk=>by
        obtain⟨q,hq,rfl⟩:=List.getElem_of_mem hk;exact HJ.o q hq (by omega)
       have EP:Hid (∀W (f:Bool),Touch [] w W->(f=true↔dm v.hn v.on b)->jQ v.hn v.on l b w (.returned (.bool f)) W):=fun W f hW h=>HBO.o W f hW (h.trans ⟨fun hk=>⟨hk,H23.o.1,H23.o.2,HAW.o,HAN.o⟩,fun hb=>hb.1⟩);have FL:=hdq (HT0.o.trans' HT.o);obtain⟨x0,x1,x2,x3,x4,x5,_,⟨xf0,xf1,Gd,Gh,GK,Gn,Gr⟩,_,_,_⟩:=HB7.o wr HT.o;obtain⟨y0,y1,y2,y3,y4,y5,_,zy,_,_⟩:=HR6.o wr HT.o;clear HJ HAN HAW DJ HBO HAM HB HG Gb HBY HB7 HR6;by_cases hk5:b.kind=5
       .have k5:(b.kind==5)=true:=by simp[hk5]
        by_cases h1:0<=b.n
        .by_cases hz:b.n<(v.hn:Int)
         .skip
          go_wp2_with fail
          refine(FU.o _ FL.o).mono ?_;rintro e w6 ⟨f,rfl,hf,ht⟩;have HE:=hdq (EP.o w6 f (FL.o.trans' ht) (hf.trans (by simp[dm,hk5,h1,hz])));clear hf ht EP FU FO;go_wp2;go_ret
          exact HE.o
         .have dz:decide (b.n<(v.hn:Int))=false:=decide_eq_false hz
          have HE:=hdq (EP.o wr false FL.o (by simp[dm,hk5,h1,hz]));clear EP FU FO;go_wp2;go_ret
          exact HE.o
        .have d1:decide (0<=b.n)=false:=decide_eq_false h1
         have HE:=hdq (EP.o wr false FL.o (by simp[dm,hk5,h1]));clear EP FU FO;go_wp2;go_ret
         exact HE.o
       have k5:(b.kind==5)=false:=by simp[hk5]
       by_cases Hq:b.kind=6
       .have k6:(b.kind==6)=true:=by simp[Hq]
        by_cases h1:0<=b.n
        .by_cases hz:b.n<(v.hn:Int)
         .skip
          go_wp2_with fail
          refine(FO.o _ FL.o).mono ?_;rintro e w6 ⟨f,rfl,hf,ht⟩;have HE:=hdq (EP.o w6 f (FL.o.trans' ht) (hf.trans (by simp[dm,Hq,h1,hz])));clear hf ht EP FU FO;go_wp2;go_ret
          exact HE.o
         .have dz:decide (b.n<(v.hn:Int))=false:=decide_eq_false hz
          have HE:=hdq (EP.o wr false FL.o (by simp[dm,Hq,h1,hz]));clear EP FU FO;go_wp2;go_ret
          exact HE.o
        .have d1:decide (0<=b.n)=false:=decide_eq_false h1
         have HE:=hdq (EP.o wr false FL.o (by simp[dm,Hq,h1]));clear EP FU FO;go_wp2;go_ret
         exact HE.o
       have k6:(b.kind==6)=false:=by simp[Hq]
       by_cases hk7:b.kind=7
       .have k7:(b.kind==7)=true:=by simp[hk7]
        by_cases h1:b.n=0
        .have d1:(b.n==0)=true:=by simp[h1]
         go_wp2_with fail
         refine(FU.o _ FL.o).mono ?_;rintro e w6 ⟨f,rfl,hf,ht⟩;have HE:=hdq (EP.o w6 f (FL.o.trans' ht) (hf.trans (by simp[dm,hk7,h1])));clear hf ht EP FU FO;go_wp2;go_ret
         exact HE.o
        .have d1:(b.n==0)=false:=by simp[h1]
         have HE:=hdq (EP.o wr false FL.o (by simp[dm,hk7,h1]));clear EP FU FO;go_wp2;go_ret
         exact HE.o
       have k7:(b.kind==7)=false:=by simp[hk7]
       by_cases J6:b.kind=8
       .have k8:(b.kind==8)=true:=by simp[J6]
        by_cases h1:b.n=0
        .have d1:(b.n==0)=true:=by simp[h1]
         go_wp2_with fail
         refine(FO.o _ FL.o).mono ?_;rintro e w6 ⟨f,rfl,hf,ht⟩;have HE:=hdq (EP.o w6 f (FL.o.trans' ht) (hf.trans (by simp[dm,J6,h1])));clear hf ht EP FU FO;go_wp2;go_ret
         exact HE.o
        .have d1:(b.n==0)=false:=by simp[h1]
         have HE:=hdq (EP.o wr false FL.o (by simp[dm,J6,h1]));clear EP FU FO;go_wp2;go_ret
         exact HE.o
       have k8:(b.kind==8)=false:=by simp[J6]
       by_cases G7:b.kind=13
       .have k13:(b.kind==13)=true:=by simp[G7]
        by_cases h1:0<=b.n
        .by_cases hz:b.n<(v.on:Int)
         .skip
          go_wp2_with fail
          refine(FO.o _ FL.o).mono ?_;rintro e w6 ⟨f,rfl,hf,ht⟩;have HE:=hdq (EP.o w6 f (FL.o.trans' ht) (hf.trans (by simp[dm,G7,h1,hz])));clear hf ht EP FU FO;go_wp2;go_ret
          exact HE.o
         .have dz:decide (b.n<(v.on:Int))=false:=decide_eq_false hz
          have HE:=hdq (EP.o wr false FL.o (by simp[dm,G7,h1,hz]));clear EP FU FO;go_wp2;go_ret
          exact HE.o
        .have d1:decide (0<=b.n)=false:=decide_eq_false h1
         have HE:=hdq (EP.o wr false FL.o (by simp[dm,G7,h1]));clear EP FU FO;go_wp2;go_ret
         exact HE.o
       have k13:(b.kind==13)=false:=by simp[G7]
       have HE:=hdq (EP.o wr false FL.o (by simp[dm,hk5,Hq,hk7,J6,G7]));clear EP FU FO;go_wp2;go_ret
       exact HE.o
  .have d3:(32:Int)<(b.aT.length:Int):=by omega
   have HE:=hdq (DJ.o w2 HL2.o.BN (fun h=>h3 h.2.2.1));clear DJ HBO HB HG HAM FU FO;go_wp2;go_ret
   exact HE.o
 .have d2:(32:Int)<(b.wraps.length:Int):=by omega
  have HE:=hdq (DJ.o w2 HL2.o.BN (fun h=>h2 h.2.1));clear DJ HBO HB HG HAM FU FO;go_wp2;go_ret
  exact HE.o
def nM(n1 n2:Nat)(th:Int)(bases:List MB)(conds:List Int):Prop:=0<=th/\Ac n2 conds/\bases.length<=32/\∀b∈bases,eD n1 n2 conds b
def nX(n1 n2:Nat)(th:Int)(bases:List MB)(conds:List Int)(w:World):Ending->World->Prop:=aI (nM n1 n2 th bases conds) w
theorem zD(v:RV)(w:World)(th:Int)(ba:Option Addr)(bases:List MB)(bc:Nat)(ca:Option Addr)(conds:List Int)(cc:Nat)(h:iJ w ba bases ca conds)(hbig:∀b∈bases,b.Big):
  Calls prog 226 #[v.val,th,.slice ba bases.length bc,.slice ca conds.length cc] w (nX v.hn v.on th bases conds w):=by
 have HB:=hdq (fun W (hW:Touch [] w W)=>(show(aG W ba 7 bases.length (bases.flatMap MB.cells)/\∀b∈bases,b.Mem W)/\aG W ca 1 conds.length (conds.flatMap fq) from⟨⟨h.1.1.aW hW,fun b hb=>(h.1.2 b hb).aW hW⟩,h.2.aW hW⟩));have HG:=hdq hbig;have hdl:bases.length<=2000000/\conds.length<=2000000:=⟨h.1.1.1,h.2.1⟩;have DJ:Hid (∀W,Touch [] w W->¬nM v.hn v.on th bases conds->nX v.hn v.on th bases conds w (.returned (.bool false)) W):=fun W hW h=>⟨false,rfl,by simp[h],hW⟩;have Dj:Hid (∀W,Touch [] w W->nM v.hn v.on th bases conds->nX v.hn v.on th bases conds w (.returned (.bool true)) W):=fun W hW h=>⟨true,rfl,by simp[h],hW⟩;clear h hbig;simp only[RV.val];go_enter func226,ntmps226
 go_upto_region 1 with fail
 refine ay ?_;intro w2 hw2;have HL2:=hdq ((BD.nil' w).DN hw2);simp only[nAq]at HL2;generalize hb4:w.heap.size=b4 at HL2|-;clear hw2 hb4;by_cases h1:0<=th
 .have d1:decide (th<0)=false:=decide_eq_false (by omega)
  by_cases h2:bases.length<=32
  .have d2:decide ((32:Int)<(bases.length:Int))=false:=decide_eq_false (by omega)
   have H12:Hid (0<=th/\bases.length<=32):=⟨h1,h2⟩;go_wp2;have HR6:=hdq (fun W (hW:Touch [] w2 W)=>(HL2.o.touch hW).c6 0 rfl);have HT0:=hdq HL2.o.BN;clear HL2 d1 d2 h1;go_loopw [9] (fun p wr=>∃i:Nat,p= .int .i64 (i:Int)/\i<=conds.length/\Hid (Touch [] w2 wr)/\Hid ((∀t (h:t<conds.length),t<i->0<=conds[t]/\conds[t]<(v.on:Int))/\∀s t (hs:s<conds.length) (ht:t<conds.length),s<t->t<i->conds[s]<conds[t])) (fun p _=>conds.length-(intOf p).toNat)
   case atStart=>exact⟨0,rfl,Nat.zero_le _,Touch.refl _ _,fun t h h0=>absurd h0 (Nat.not_lt_zero _),fun s t hs ht hst h0=>absurd h0 (Nat.not_lt_zero _)⟩
   case round=>
    obtain⟨i,rfl,hi,HT,HA⟩:=hrel;have hi0:(0:Int)<=(i:Int):=by omega
    by_cases hil:i<conds.length
    .have EM:(i:Int)<(conds.length:Int):=by omega
     obtain⟨b,o,hba,zb,hc⟩:=aG.at (f:=fq) (fun _=>rfl) (HB.o wr (HT0.o.trans' HT.o)).2 i hil;obtain⟨y0,y1,y2,y3,y4,y5,_,zy,_,_⟩:=HR6.o wr HT.o;have hm:=hc 0 Nat.one_pos;have LX:=hdq (fun n=>(HT0.o.trans' HT.o).trans' ((Touch.refl [] wr).drewN n));have HTe:=hdq (fun n=>HT.o.trans' ((Touch.refl [] wr).drewN n));have FR:Hid (conds[i]<0\/(v.on:Int)<=conds[i]->∀n,nX v.hn v.on th bases conds w (.returned (.bool false)) (wr.drewN n)):=fun h n=>DJ.o _ (LX.o n) (fun h2=>by have :=h2.2.1.1 i hil;omega);have Gy:Hid (∀(hi1:i-1<conds.length),0<i->conds[i]<=conds[i-1]->∀n,nX v.hn v.on th bases conds w (.returned (.bool false)) (wr.drewN n)):=fun hi1 h0 h n=>DJ.o _ (LX.o n) (fun h2=>by have :=h2.2.1.2 (i-1) i hi1 hil (by omega);omega);have HST:Hid ((0<=conds[i]/\conds[i]<(v.on:Int))->(∀(hi1:i-1<conds.length),0<i->conds[i-1]<conds[i])->(∀t (h:t<conds.length),t<i+1->0<=conds[t]/\conds[t]<(v.on:Int))/\∀s t (hs:s<conds.length) (ht:t<conds.length),s<t->t<i+1->conds[s]<conds[t]):=fun g1 g2=>by
      refine⟨fun t ht hti=>?_,fun s t hs ht hst hti=>?_⟩
      .by_cases hte:t=i
       .subst hte;exact g1
       .exact HA.o.1 t ht (by omega)
      .by_cases hte:t=i
       .subst hte
        have g3:=g2 (by omega) (by omega);by_cases hse:s=t-1
        .subst hse;exact g3
        .have :=HA.o.2 s (t-1) hs (by omega) (by omega) (by omega);omega
       .exact HA.o.2 s t hs ht hst (by omega)
     obtain⟨y,hy⟩:∃y,conds[i]=y:=⟨_,rfl⟩;rw[hy,Nat.mul_one,Nat.add_zero]at hm;have hm2:wr.cell? ⟨b,o+i,none⟩=some (.int .i64 y):=hm;rw[hy]at FR Gy HST;have FD:=hdq hba;by_cases g1:y<0
     .have e1:decide (y<0)=true:=decide_eq_true g1
      have he:=FR.o (.inl g1);(try rw[hba]at he)
      have HE:=hdq he;rw[hba];clear hc hy hm hba he FR Gy HST LX HTe HA g1;go_wp2_with fail
      go_quiet (fail)
      go_wp2;go_ret
      exact HE.o _
     .have e1:decide (y<0)=false:=decide_eq_false g1
      by_cases g2:(v.on:Int)<=y
      .have e2:decide ((v.on:Int)<=y)=true:=decide_eq_true g2
       have he:=FR.o (.inr g2);(try rw[hba]at he)
       have HE:=hdq he;rw[hba];clear hc hy hm hba he FR Gy HST LX HTe HA g1;go_wp2_with fail
       go_quiet (fail)
       go_wp2;go_ret
       exact HE.o _
      .have e2:decide ((v.on:Int)<=y)=false:=decide_eq_false g2
       by_cases g3:i=0
       .have e3:decide (0<(i:Int))=false:=decide_eq_false (by omega)
        have e3':decide (0<i)=false:=decide_eq_false (by omega);have HA2:=hdq (HST.o ⟨by omega,by omega⟩ (fun h h0=>by omega));rw[hba];clear hc hy hm hba FR Gy HST LX HA g1 g2 g3;go_wp2_with fail
        go_quiet (fail)
        go_wp2;go_roundw
        case rel=>exact⟨i+1,by go_num,by omega,HTe.o _,HA2⟩
        case measure=>simp[intOf];omega
       .have e3:decide (0<(i:Int))=true:=decide_eq_true (by omega)
        have e3':decide (0<i)=true:=decide_eq_true (by omega);have hi1:i-1<conds.length:=by omega
        obtain⟨b',o',DF,zb',hc'⟩:=aG.at (f:=fq) (fun _=>rfl) (HB.o wr (HT0.o.trans' HT.o)).2 (i-1) hi1;rw[hba]at DF;injection DF with DF
        injection DF with q1 q2
        subst q1 q2;have hz:=hc' 0 Nat.one_pos;obtain⟨z,hzz⟩:∃z,conds[i-1]=z:=⟨_,rfl⟩;rw[hzz,Nat.mul_one,Nat.add_zero]at hz;have hz2:wr.cell? ⟨b,o+(i-1),none⟩=some (.int .i64 z):=hz;have N8:=hdq (fun h=>Gy.o hi1 (by omega) h);rw[hzz]at N8;have HST':Hid ((0<=y/\y<(v.on:Int))->z<y->_):=fun a1 a2=>HST.o a1 (fun _ _=>by rw[hzz];exact a2);have s1:IntKind.i64.wrap ((i:Int)-1)=(i:Int)-1:=IntWalk.i64_in _ (by omega);have s2:(0:Int)<=(i:Int)-1:=by omega
        have s3:(i:Int)-1<(conds.length:Int):=by omega
        have s4:((i:Int)-1).toNat=i-1:=by omega
        by_cases g4:y<=z
        .have e4:decide (y<=z)=true:=decide_eq_true g4
         have he:=N8.o g4;(try rw[hba]at he)
         have HE:=hdq he;rw[hba];clear hc hc' hy hm hba he FR Gy N8 HST HST' LX HTe HA g1 g2 hz hzz hi1;go_wp2_with fail
         go_quiet (fail)
         go_wp2;go_ret
         exact HE.o _
        .have e4:decide (y<=z)=false:=decide_eq_false g4
         have HA2:=hdq (HST'.o ⟨by omega,by omega⟩ (by omega));rw[hba];clear hc hc' hy hm hba FR Gy N8 HST HST' LX HA g1 g2 g4 hz hzz hi1;go_wp2_with fail
         go_quiet (fail)
         clear s1 s2 s3 s4;go_wp2;go_roundw
         case rel=>exact⟨i+1,by go_num,by omega,HTe.o _,HA2⟩
         case measure=>simp[intOf];omega
    .have EM:¬(i:Int)<(conds.length:Int):=by omega
     have F7:Hid (Ac v.on conds):=⟨fun t h=>HA.o.1 t h (by omega),fun s t hs ht hst=>HA.o.2 s t hs ht hst (by omega)⟩;have Fy:=hdq HT.o;clear HA;go_wp2;go_loopw [10] (fun p wr2=>∃j:Nat,p= .int .i64 (j:Int)/\j<=bases.length/\Hid (Touch [] w2 wr2)/\Hid (∀q (hq:q<bases.length),q<j->eD v.hn v.on conds bases[q])) (fun p _=>bases.length-(intOf p).toNat)
     case atStart=>exact⟨0,rfl,Nat.zero_le _,Fy,fun q hq h0=>absurd h0 (Nat.not_lt_zero _)⟩
     case round=>
      clear Fy HT hil EM hi hi0;obtain⟨j,rfl,hj,HT,HJ⟩:=hrel;have hj0:(0:Int)<=(j:Int):=by omega
      by_cases hjl:j<bases.length
      .have Cc:(j:Int)<(bases.length:Int):=by omega
       have hargs:=HB.o wr (HT0.o.trans' HT.o);obtain⟨bb,oo,hbb,zbb,hcc⟩:=aG.at (f:=MB.cells) (fun _=>rfl) hargs.1.1 j hjl;have EI:=hdq (fun W (hW:Touch [] w2 W)=>(HB.o W (HT0.o.trans' hW)).1.2 _ (List.getElem_mem hjl));have HGG:=hdq (HG.o _ (List.getElem_mem hjl));have EK:Hid (¬eD v.hn v.on conds bases[j]->∀W,Touch [] w W->nX v.hn v.on th bases conds w (.returned (.bool false)) W):=fun h W hW=>DJ.o W hW (fun h2=>h (h2.2.2.2 _ (List.getElem_mem hjl)));have EL:Hid (eD v.hn v.on conds bases[j]->∀q (hq:q<bases.length),q<j+1->eD v.hn v.on conds bases[q]):=fun h q hq hqj=>by
        by_cases hqe:q=j
        .subst hqe;exact h
        .exact HJ.o q hq (by omega)
       obtain⟨m,hm⟩:∃m,bases[j]=m:=⟨_,rfl⟩;have k0:wr.cell? ⟨bb,oo+j*7,none⟩=some (.int .i64 m.kind):=(hcc 0 (by omega)).trans (by rw[hm];rfl);have k1:wr.cell? ⟨bb,oo+j*7+1,none⟩=some (.int .i64 m.n):=(hcc 1 (by omega)).trans (by rw[hm];rfl);have k2:wr.cell? ⟨bb,oo+j*7+2,none⟩=some (.int .i64 m.v.kind):=(hcc 2 (by omega)).trans (by rw[hm];rfl);have k3:wr.cell? ⟨bb,oo+j*7+3,none⟩=some (.int .i64 m.v.num):=(hcc 3 (by omega)).trans (by rw[hm];rfl);have k4:wr.cell? ⟨bb,oo+j*7+4,none⟩=some (.slice m.v.addr m.v.parts.length m.v.cap):=(hcc 4 (by omega)).trans (by rw[hm];rfl);have k5:wr.cell? ⟨bb,oo+j*7+5,none⟩=some (.slice m.wa m.wraps.length m.wc):=(hcc 5 (by omega)).trans (by rw[hm];rfl);have k6:wr.cell? ⟨bb,oo+j*7+6,none⟩=some (.slice m.na m.aT.length m.nc):=(hcc 6 (by omega)).trans (by rw[hm];rfl);rw[hm]at EI HGG EK EL;have HBS:=hdq (fun W (hW:Touch [] wr W)=>base16 v m W (EI.o W (HT.o.trans' hW)) HGG.o ca cc conds (HB.o W ((HT0.o.trans' HT.o).trans' hW)).2);simp only[RV.val,MB.val]at HBS;obtain⟨y0,y1,y2,y3,y4,y5,_,zy,_,_⟩:=HR6.o wr HT.o;have FD:=hdq hbb;rw[hbb];clear hcc hm hbb hargs;have BZ:=hdq (Touch.refl [] wr).drew;go_wp2_with fail
       refine hrq (S:=fun w'=>w'.cell? ⟨b4,0,none⟩=some (.slice v.ca v.cn v.cc)/\w'.cell? ⟨b4,1,none⟩=some (.int .i64 v.most)/\w'.cell? ⟨b4,2,none⟩=some (.slice v.la v.ln v.lc)/\w'.cell? ⟨b4,3,none⟩=some (.slice v.ha v.hn v.hc)/\w'.cell? ⟨b4,4,none⟩=some (.slice v.oa v.on v.oc)/\w'.cell? ⟨b4,5,none⟩=some (.slice v.sa v.sn v.sc)/\w'.cell? ⟨bb,oo+j*7,none⟩=some (.int .i64 m.kind)/\w'.cell? ⟨bb,oo+j*7+1,none⟩=some (.int .i64 m.n)/\w'.cell? ⟨bb,oo+j*7+2,none⟩=some (.int .i64 m.v.kind)/\w'.cell? ⟨bb,oo+j*7+3,none⟩=some (.int .i64 m.v.num)/\w'.cell? ⟨bb,oo+j*7+4,none⟩=some (.slice m.v.addr m.v.parts.length m.v.cap)/\w'.cell? ⟨bb,oo+j*7+5,none⟩=some (.slice m.wa m.wraps.length m.wc)/\w'.cell? ⟨bb,oo+j*7+6,none⟩=some (.slice m.na m.aT.length m.nc)) fun hHeld=>?_;refine tkq 0 61 ?_;refine tkq 1 62 ?_;refine tkq 2 63 ?_;refine tkq 3 64 ?_;refine tkq 4 65 ?_;refine tkq 5 66 ?_;refine rdq 6 rfl fun K hK=>?_;go_simp;refine(HBS.o _ BZ.o).mono ?_;rintro en w6 ⟨f,rfl,hf,ht⟩;have ht2:=BZ.o.trans' ht;have Fu:=hdq (HT.o.trans' ht2);obtain⟨y0,y1,y2,y3,y4,y5,_,zy,_,_⟩:=HR6.o w6 Fu.o;have k0:=ht2.cellOf k0;have k1:=ht2.cellOf k1;have k2:=ht2.cellOf k2;have k3:=ht2.cellOf k3;have k4:=ht2.cellOf k4;have k5:=ht2.cellOf k5;have k6:=ht2.cellOf k6;clear ht ht2 HBS BZ hHeld;cases f with
       |true=>
        have HJ2:=hdq (EL.o (hf.1 rfl));clear hf EL EK HJ;go_simp;refine kpq hK.o fun hHeld=>?_;clear hK K;refine tkq 7 68 ?_;refine dnq ?_;clear hHeld;go_wp2;go_roundw
        case rel=>exact⟨j+1,by go_num,by omega,Fu,HJ2⟩
        case measure=>simp[intOf];omega
       |false=>
        have he:=EK.o (fun h=>by have :=hf.2 h;simp at this) w6 (HT0.o.trans' Fu.o);(try rw[FD.o]at he)
        have HE:=hdq he;clear he hf EL EK HJ;go_simp;refine kpq hK.o fun hHeld=>?_;clear hK K;refine tkq 7 68 ?_;refine dnq ?_;clear hHeld;go_wp2;go_ret
        exact HE.o
      .have Cc:¬(j:Int)<(bases.length:Int):=by omega
       have HE:=hdq (Dj.o wr (HT0.o.trans' HT.o) ⟨H12.o.1,F7.o,H12.o.2,fun b hb=>by
        obtain⟨q,hq,rfl⟩:=List.getElem_of_mem hb;exact HJ.o q hq (by omega)⟩)
       go_wp2;go_ret
       exact HE.o
  .have d2:(32:Int)<(bases.length:Int):=by omega
   have HE:=hdq (DJ.o w2 HL2.o.BN (fun h=>h2 h.2.2.1));clear DJ Dj HB HG;go_wp2;go_ret
   exact HE.o
 .have d1:decide (th<0)=true:=decide_eq_true (by omega)
  have HE:=hdq (DJ.o w2 HL2.o.BN (fun h=>h1 h.1));clear DJ Dj HB HG;go_wp2;go_ret
  exact HE.o
theorem Z5(most:Nat)(w:World)(h1:1<=most)(h2:most<=65536):Calls prog 48 #[(most:Int)] w fun e w'=>e= .returned (.tuple #[bI (.slice none 0 0) most (.slice none 0 0),()])/\Touch [] w w':=by
 have h1':¬(most:Int)<1:=by omega
 have h2':¬65536<(most:Int):=by omega
 have HT:=hdq ((Touch.refl [] w).alloc (.cells #[True,(most:Int),True] 33));unfold bI;go_enter func48,ntmps48
 go_wp2;refine bodyPost_ret (v:= .tuple #[.agg #[True,(most:Int),True],()]) (by simp[results,results48,go_sem]) rfl ⟨rfl,HT.o⟩
theorem Oo(most:Nat)(w:World)(h1:1<=most)(h2:most<=65536):Calls prog 10 #[(most:Int)] w fun e w'=>e= .returned (.tuple #[.agg #[True,(most:Int),True,True,True,True],()])/\Touch [] w w':=by
 have HC:Hid (∀W,Calls prog 48 #[(most:Int)] W fun e w'=>e= .returned (.tuple #[.agg #[True,(most:Int),True],()])/\Touch [] W w'):=fun W=>Z5 most _ h1 h2;have hbw:∀W,(Instr.build 38 #[(0,.agg #[True,(most:Int),True])]).run prog W= .ok (.agg #[True,(most:Int),True,True,True,True]) W:=fun W=>run_build W 38 _ _ (by kernel_rfl);go_enter func10,ntmps10
 go_wp2_with fail
 refine ah ?_;intro w1 hw1;have BB:=hdq ((BD.nil' w).DN hw1);simp only[nAq]at BB;generalize hb0:w.heap.size=b0 at BB|-;refine(HC.o _).mono ?_;rintro e w2 ⟨rfl,ht⟩;have HL2:=hdq (BB.o.touch ht);go_upto_region 2 with fail
 refine ay ?_;intro w3 hw3;have BF:=hdq (HL2.o.DN hw3);simp only[nAq,cAq]at BF;generalize hb2:w2.heap.size=b2 at BF|-;obtain⟨p0,p1,p2,p3,p4,p5,⟨f0,f1,f2,f3,f4,f5⟩,z1,_,_⟩:=BF.o.c6 0 rfl;obtain⟨q0,q1,q2,_,_,_,z2,_,_⟩:=BF.o.c3 1 rfl;have n12:=BF.o.ne 0 1 rfl rfl (by decide);have n21:=Ne.symm n12;have BH:=hdq ((((((BF.o.set 0 rfl 0 (.slice none 0 0)).set 0 rfl 1 (.int .i64 (most:Int))).set 0 rfl 2 (.slice none 0 0)).set 0 rfl 3 (.slice none 0 0)).set 0 rfl 4 (.slice none 0 0)).set 0 rfl 5 (.slice none 0 0));simp only[sSq,sZq,sAq]at BH;go_wp2;refine aP ?_;intro w5 DC;have Ca:=hdq (BH.o.toW DC);obtain⟨p0,p1,p2,p3,p4,p5,_,_,_,_⟩:=Ca.o.c6 0 rfl;refine bodyPost_ret (v:= .tuple #[.agg #[True,(most:Int),True,True,True,True],()]) (by simp[results,results10,go_sem,p0,p1,p2,p3,p4,p5]) rfl ?_;exact⟨rfl,Ca.o.BN⟩
theorem bQ(w:World)(e:Int):Calls prog 9 #[e] w fun en w'=>en= .returned (.int .i64 e)/\w=w':=by
 go_enter func9,ntmps9
 go_wp2;go_ret
 exact⟨rfl,rfl⟩
def fu(c:Int):MB:=⟨6,c,MT.zero,none,0,[],none,0,[]⟩
theorem Jc(w:World)(c:Int):Calls prog 46 #[c] w fun en w'=>∃a,en= .returned (.slice a 1 1)/\BD [] w w' [aA fun W=>aG W a 7 1 ([fu c].flatMap MB.cells)/\∀b∈[fu c],b.Mem W]:=by
 have hbb:∀W,(Instr.build 110 #[(0,.int .i64 6),(1,.int .i64 c)]).run prog W= .ok (.agg #[(6:Int),c,(),(),True,True,True]) W:=fun W=>run_build W 110 _ _ (by kernel_rfl);have BB:=hdq ((BD.nil' w).alloc 110 #[(6:Int),c,(),(),True,True,True]);simp only[nAq]at BB;go_enter func46,ntmps46
 go_wp2;go_ret
 refine⟨some ⟨w.heap.size,0,none⟩,rfl,BB.o.jh 0 rfl (fun W f hf=>⟨⟨by omega,fun i hi=>⟨w.heap.size,0,rfl,hf.2.lt,fun j hj=>?_⟩⟩,?_⟩)⟩
 .obtain rfl:i=0:=by omega
  have hb:=hf.2;have h7:j=0\/j=1\/j=2\/j=3\/j=4\/j=5\/j=6:=by omega
  rcases h7 with rfl|rfl|rfl|rfl|rfl|rfl|rfl
  .exact hb.cell 0
  .exact hb.cell 1
  .exact hb.cell 2
  .exact hb.cell 3
  .exact hb.cell 4
  .exact hb.cell 5
  .exact hb.cell 6
 .intro b hb
  simp only[List.mem_singleton]at hb;subst hb;exact⟨MT.dQ W,⟨gX _ _ _ _,by simp[fu]⟩,gX _ _ _ _⟩
def Does(f:FuncId)(args:Array Value)(m:List ai)(R:Ending->List ai->Prop):Prop:=∀T w,BD T w w m->Calls prog f args w fun e w'=>∃m',R e m'/\BD T w w' m'
theorem BD.does{T:List Nat}{w0 w:World}{m r:List ai}{f:FuncId}{args:Array Value}{R:Ending->List ai->Prop}(h:BD T w0 w (m++r))(hc:Does f args m R):Calls prog f args w fun e w'=>∃m',R e m'/\BD T w0 w' (m'++r):=by
 obtain⟨T',h1,h2⟩:=h.aN;refine(hc T' w h1).mono ?_;rintro e w' ⟨m',hR,hL⟩;exact⟨m',hR,h2 _ _ hL⟩
theorem Does.mono{f:FuncId}{args:Array Value}{m:List ai}{R R':Ending->List ai->Prop}(h:Does f args m R)(hR:∀e m',R e m'->R' e m'):Does f args m R':=by
 intro T w hL;refine(h T w hL).mono ?_;rintro e w' ⟨m',h1,h2⟩;exact⟨m',hR _ _ h1,h2⟩
theorem bA{f:FuncId}{args:Array Value}{m:List ai}{E:Ending}(h:∀w,Calls prog f args w fun e w'=>e=E/\Touch [] w w'):Does f args m fun e m'=>e=E/\m'=m:=by
 intro T w hL;refine(h w).mono ?_;rintro e w' ⟨rfl,ht⟩;exact⟨m,⟨rfl,rfl⟩,hL.touch ht⟩
theorem BD.aC{T:List Nat}{w0 w:World}{m r:List ai}{b t:Nat}{cs:Array Value}(h:BD T w0 w (m++r))(i:Nat)(hi:r[i]? =some (Proofs.YtddnnapoaonmjaaGreatDoor.box b t cs)):Cg w b t cs:=
 h.box (m.length+i) (by rw[List.getElem?_append_right (by omega),Nat.add_sub_cancel_left];exact hi)
theorem BD.xq{T:List Nat}{w0 w:World}{m r:List ai}{b t:Nat}{cs:Array Value}{v:Value}(h:BD T w0 w (m++r))(i j:Nat)(hi:r[i]? =some (Proofs.YtddnnapoaonmjaaGreatDoor.box b t cs))(hv:cs[j]? =some v):w.cell? ⟨b,j,none⟩=some v:=((h.aC i hi).cell j).trans hv
theorem BD.af{T:List Nat}{w0 w:World}{m r:List ai}{b t:Nat}{cs:Array Value}(h:BD T w0 w (m++r))(i:Nat)(hi:r[i]? =some (Proofs.YtddnnapoaonmjaaGreatDoor.box b t cs))(j:Nat)(v:Value):BD T w0 (w.setCell ⟨b,j,none⟩ v) (m++r.set i (Proofs.YtddnnapoaonmjaaGreatDoor.box b t (cs.setIfInBounds j v))):=by
 have h1:=h.set (m.length+i) (by rw[List.getElem?_append_right (by omega),Nat.add_sub_cancel_left];exact hi) j v;rwa[List.set_append_right _ _ (by omega),Nat.add_sub_cancel_left]at h1
theorem jd{m r:List ai}{i:Nat}{t:ai}(hi:r[i]? =some t):(m++r)[m.length+i]? =some t:=by
 rw[List.getElem?_append_right (by omega),Nat.add_sub_cancel_left];exact hi
theorem BD.BJ{T:List Nat}{w0 w:World}{m r:List ai}{b t:Nat}(h:BD T w0 w (m++r))(i:Nat){x0 x1 x2 x3 x4 x5:Value}(hi:r[i]? =some (Proofs.YtddnnapoaonmjaaGreatDoor.box b t #[x0,x1,x2,x3,x4,x5])):type_of% (h.c6 (m.length+i) (jd hi)):=h.c6 (m.length+i) (jd hi)
theorem BD.C9{T:List Nat}{w0 w:World}{m r:List ai}{b t:Nat}(h:BD T w0 w (m++r))(i:Nat){x0 x1 x2 x3 x4 x5 x6:Value}(hi:r[i]? =some (Proofs.YtddnnapoaonmjaaGreatDoor.box b t #[x0,x1,x2,x3,x4,x5,x6])):type_of% (h.c7 (m.length+i) (jd hi)):=h.c7 (m.length+i) (jd hi)
theorem BD.at3{T:List Nat}{w0 w:World}{m r:List ai}{b t:Nat}(h:BD T w0 w (m++r))(i:Nat){x0 x1 x2:Value}(hi:r[i]? =some (Proofs.YtddnnapoaonmjaaGreatDoor.box b t #[x0,x1,x2])):type_of% (h.c3 (m.length+i) (jd hi)):=h.c3 (m.length+i) (jd hi)
theorem BD.bN{T:List Nat}{w0 w:World}{m r:List ai}(h:BD T w0 w (m++r))(i j:Nat){b b' t t':Nat}{cs cs':Array Value}(hi:r[i]? =some (Proofs.YtddnnapoaonmjaaGreatDoor.box b t cs))(hj:r[j]? =some (Proofs.YtddnnapoaonmjaaGreatDoor.box b' t' cs'))(hij:i≠j):b≠b':=h.ne (m.length+i) (m.length+j) (jd hi) (jd hj) (by omega)
theorem BD.av{T:List Nat}{w0 w w':World}{m r:List ai}{t:Nat}{cs:Array Value}(h:BD T w0 w (m++r))(e:w.alloc (.cells cs t)=w'):BD T w0 w' (m++(r++[Proofs.YtddnnapoaonmjaaGreatDoor.box w.heap.size t cs])):=by
 rw[<-List.append_assoc];exact h.DN e
theorem ak{P:Program}{ops:Array Oper}{Q:Exit->Act->World->Prop}{md:Region.Mode}{S:World->Prop}{fuel:Nat}{listed:Array Bool}{a:Act}{W:World}(h:∀w2,W=w2->wpAnyH P md ops Q S fuel listed a w2):wpAnyH P md ops Q S fuel listed a W:=h W rfl
theorem xJ(v:RV)(n:Nat)(w:World)(hm:0<=v.most/\v.most<=65536)(hc:(v.cn:Int)<=v.most)(hf:v.most-(v.cn:Int)<(n:Int)):Calls prog 271 #[.agg #[.slice v.ca v.cn v.cc,v.most,.slice v.la v.ln v.lc],(n:Int)] w fun e w'=>e= .returned (.tuple #[.agg #[.slice v.ca v.cn v.cc,v.most,.slice v.la v.ln v.lc],(),(6:Int)])/\Touch [] w w':=by
 have hn:¬(n:Int)<0:=by omega
 go_enter func271,ntmps271
 go_wp2;refine bodyPost_ret (v:= .tuple #[.agg #[.slice v.ca v.cn v.cc,v.most,.slice v.la v.ln v.lc],(),(6:Int)]) (by simp[results,results271,go_sem]) rfl ?_;exact⟨rfl,((Touch.refl [] w).alloc _).alloc _⟩
theorem Wj(v:RV)(w:World)(hm:0<=v.most/\v.most<=65536)(hc:(v.cn:Int)<=v.most)(hf:v.most-(v.cn:Int)<1):Calls prog 270 #[.agg #[.slice v.ca v.cn v.cc,v.most,.slice v.la v.ln v.lc]] w fun e w'=>e= .returned (.tuple #[.agg #[.slice v.ca v.cn v.cc,v.most,.slice v.la v.ln v.lc],(),(6:Int)])/\Touch [] w w':=by
 have HC:Hid (∀W,Calls prog 271 #[.agg #[.slice v.ca v.cn v.cc,v.most,.slice v.la v.ln v.lc],(1:Int)] W fun e w'=>e= .returned (.tuple #[.agg #[.slice v.ca v.cn v.cc,v.most,.slice v.la v.ln v.lc],(),(6:Int)])/\Touch [] W w'):=fun W=>xJ v 1 W hm hc hf;go_enter func270,ntmps270
 go_wp2_with fail
 refine ah ?_;intro w1 hw1;have BB:=hdq ((BD.nil' w).DZ hw1);simp only[nAq,cAq]at BB;generalize hb1:w.heap.size+1=b1 at BB|-;refine(HC.o _).mono ?_;rintro e w2 ⟨rfl,ht⟩;have HL2:=hdq (BB.o.touch ht);obtain⟨p0,p1,p2,f0,f1,f2,z1,z11,z12⟩:=HL2.o.c3 1 rfl;go_wp2;refine aP ?_;intro w3 hw3;have BF:=hdq ((((HL2.o.set 1 rfl 0 (.slice v.ca v.cn v.cc)).set 1 rfl 1 (.int .i64 v.most)).set 1 rfl 2 (.slice v.la v.ln v.lc)).toW hw3);simp only[sSq,sZq,sAq,cAq,nAq]at BF;obtain⟨p0,p1,p2,_,_,_,_,_,_⟩:=BF.o.c3 1 rfl;refine bodyPost_ret (v:= .tuple #[.agg #[.slice v.ca v.cn v.cc,v.most,.slice v.la v.ln v.lc],(),(6:Int)]) (by simp[results,results270,go_sem,p0,p1,p2]) rfl ?_;exact⟨rfl,BF.o.BN⟩
theorem Vy(v:RV)(w:World)(hm:0<=v.most/\v.most<=65536)(hc:(v.cn:Int)<=v.most)(hf:v.most-(v.cn:Int)<1):Calls prog 227 #[.agg #[.slice v.ca v.cn v.cc,v.most,.slice v.la v.ln v.lc]] w fun e w'=>e= .returned (.tuple #[.agg #[.slice v.ca v.cn v.cc,v.most,.slice v.la v.ln v.lc],(),(6:Int)])/\Touch [] w w':=by
 have HC:Hid (∀W,Calls prog 271 #[.agg #[.slice v.ca v.cn v.cc,v.most,.slice v.la v.ln v.lc],(1:Int)] W fun e w'=>e= .returned (.tuple #[.agg #[.slice v.ca v.cn v.cc,v.most,.slice v.la v.ln v.lc],(),(6:Int)])/\Touch [] W w'):=fun W=>xJ v 1 W hm hc hf;go_enter func227,ntmps227
 go_wp2_with fail
 refine ah ?_;intro w1 hw1;have BB:=hdq ((BD.nil' w).DZ hw1);simp only[nAq,cAq]at BB;generalize hb1:w.heap.size+1=b1 at BB|-;refine(HC.o _).mono ?_;rintro e w2 ⟨rfl,ht⟩;have HL2:=hdq (BB.o.touch ht);obtain⟨p0,p1,p2,f0,f1,f2,z1,z11,z12⟩:=HL2.o.c3 1 rfl;go_wp2;refine aP ?_;intro w3 hw3;have BF:=hdq ((((HL2.o.set 1 rfl 0 (.slice v.ca v.cn v.cc)).set 1 rfl 1 (.int .i64 v.most)).set 1 rfl 2 (.slice v.la v.ln v.lc)).toW hw3);simp only[sSq,sZq,sAq,cAq,nAq]at BF;obtain⟨p0,p1,p2,_,_,_,_,_,_⟩:=BF.o.c3 1 rfl;refine bodyPost_ret (v:= .tuple #[.agg #[.slice v.ca v.cn v.cc,v.most,.slice v.la v.ln v.lc],(),(6:Int)]) (by simp[results,results227,go_sem,p0,p1,p2]) rfl ?_;exact⟨rfl,BF.o.BN⟩
theorem Vw(v:RV)(w:World)(hm:0<=v.most/\v.most<=65536)(hc:(v.cn:Int)<=v.most)(hf:v.most-(v.cn:Int)<1):Calls prog 224 #[.agg #[.slice v.ca v.cn v.cc,v.most,.slice v.la v.ln v.lc]] w fun e w'=>e= .returned (.tuple #[.agg #[.slice v.ca v.cn v.cc,v.most,.slice v.la v.ln v.lc],.agg #[(),True,True],(6:Int)])/\Touch [] w w':=by
 have HC:Hid (∀W,Calls prog 270 #[.agg #[.slice v.ca v.cn v.cc,v.most,.slice v.la v.ln v.lc]] W fun e w'=>e= .returned (.tuple #[.agg #[.slice v.ca v.cn v.cc,v.most,.slice v.la v.ln v.lc],(),(6:Int)])/\Touch [] W w'):=fun W=>Wj v W hm hc hf;have hbe:∀W,(Instr.build 75 #[(0,.int .i64 0)]).run prog W= .ok (.agg #[(),True,True]) W:=fun W=>run_build W 75 _ _ (by kernel_rfl);go_enter func224,ntmps224
 go_wp2_with fail
 refine ah ?_;intro w1 hw1;have BB:=hdq ((BD.nil' w).UX hw1);simp only[nAq,cAq]at BB;generalize hb2:w.heap.size+1+1=b2 at BB|-;generalize hb1:w.heap.size+1=b1 at BB|-;refine(HC.o _).mono ?_;rintro e w2 ⟨rfl,ht⟩;have HL2:=hdq (BB.o.touch ht);obtain⟨p0,p1,p2,f0,f1,f2,z1,z11,z12⟩:=HL2.o.c3 1 rfl;obtain⟨q0,q1,q2,g0,g1,g2,z2,z21,z22⟩:=HL2.o.c3 2 rfl;have m1:=HL2.o.ne 1 2 rfl rfl (by decide);have m2:=Ne.symm m1;go_wp2;refine dY ?_;intro w3 hw3;have BF:=hdq (((((((HL2.o.set 1 rfl 0 (.slice v.ca v.cn v.cc)).set 1 rfl 1 (.int .i64 v.most)).set 1 rfl 2 (.slice v.la v.ln v.lc)).set 2 rfl 0 (.int .i64 0)).set 2 rfl 1 (.slice none 0 0)).set 2 rfl 2 (.slice none 0 0)).DN hw3);simp only[sSq,sZq,sAq,cAq,nAq]at BF;obtain⟨p0,p1,p2,_,_,_,_,_,_⟩:=BF.o.c3 1 rfl;obtain⟨q0,q1,q2,_,_,_,_,_,_⟩:=BF.o.c3 2 rfl;refine bodyPost_ret (v:= .tuple #[.agg #[.slice v.ca v.cn v.cc,v.most,.slice v.la v.ln v.lc],.agg #[(),True,True],(6:Int)]) (by simp[results,results224,go_sem,p0,p1,p2,q0,q1,q2]) rfl ?_;exact⟨rfl,BF.o.BN⟩
theorem xR(v:RV)(w:World)(hm:0<=v.most/\v.most<=65536)(hc:(v.cn:Int)<=v.most)(hf:v.most-(v.cn:Int)<2):Calls prog 225 #[.agg #[.slice v.ca v.cn v.cc,v.most,.slice v.la v.ln v.lc]] w fun e w'=>e= .returned (.tuple #[.agg #[.slice v.ca v.cn v.cc,v.most,.slice v.la v.ln v.lc],.agg #[(),True],(6:Int)])/\Touch [] w w':=by
 have HC:Hid (∀W,Calls prog 271 #[.agg #[.slice v.ca v.cn v.cc,v.most,.slice v.la v.ln v.lc],(2:Int)] W fun e w'=>e= .returned (.tuple #[.agg #[.slice v.ca v.cn v.cc,v.most,.slice v.la v.ln v.lc],(),(6:Int)])/\Touch [] W w'):=fun W=>xJ v 2 W hm hc hf;have hbe:∀W,(Instr.build 284 #[(0,.int .i64 0)]).run prog W= .ok (.agg #[(),True]) W:=fun W=>run_build W 284 _ _ (by kernel_rfl);go_enter func225,ntmps225
 go_wp2_with fail
 refine ah ?_;intro w1 hw1;have BB:=hdq ((BD.nil' w).UX hw1);simp only[nAq,cAq]at BB;generalize hb2:w.heap.size+1+1=b2 at BB|-;generalize hb1:w.heap.size+1=b1 at BB|-;refine(HC.o _).mono ?_;rintro e w2 ⟨rfl,ht⟩;have HL2:=hdq (BB.o.touch ht);obtain⟨p0,p1,p2,f0,f1,f2,z1,z11,z12⟩:=HL2.o.c3 1 rfl;obtain⟨q0,q1,g0,g1,z2,z21,z22⟩:=HL2.o.c2 2 rfl;have m1:=HL2.o.ne 1 2 rfl rfl (by decide);have m2:=Ne.symm m1;go_wp2;refine dY ?_;intro w3 hw3;have BF:=hdq ((((((HL2.o.set 1 rfl 0 (.slice v.ca v.cn v.cc)).set 1 rfl 1 (.int .i64 v.most)).set 1 rfl 2 (.slice v.la v.ln v.lc)).set 2 rfl 0 (.int .i64 0)).set 2 rfl 1 (.slice none 0 0)).DN hw3);simp only[sSq,sZq,sAq,cAq,nAq]at BF;obtain⟨p0,p1,p2,_,_,_,_,_,_⟩:=BF.o.c3 1 rfl;obtain⟨q0,q1,_,_,_,_,_⟩:=BF.o.c2 2 rfl;refine bodyPost_ret (v:= .tuple #[.agg #[.slice v.ca v.cn v.cc,v.most,.slice v.la v.ln v.lc],.agg #[(),True],(6:Int)]) (by simp[results,results225,go_sem,p0,p1,p2,q0,q1]) rfl ?_;exact⟨rfl,BF.o.BN⟩
theorem BD.put{T:List Nat}{w0 w:World}{l:List ai}(h:BD T w0 w l)(i:Nat){b t:Nat}{cs:Array Value}(hi:l[i]? =some (Proofs.YtddnnapoaonmjaaGreatDoor.box b t cs))(cs':Array Value):BD T w0 (w.setRow b cs') (l.set i (Proofs.YtddnnapoaonmjaaGreatDoor.box b t cs')):=by
 obtain⟨f,⟨hf,hb⟩,_,hs⟩:=h.step i hi;subst hf;refine hs _ _ [b] ⟨rfl,?_⟩ ⟨⟨rfl,rfl,rfl,by simp[World.setRow],fun k hk hn=>setRow_other w b k _ (fun e=>hn (by simp[e]))⟩,fun k hk=> .inl hk⟩;exact setRow_heap w b cs cs' t (0,0) hb
theorem DU{P:Program}{ops:Array Oper}{Q:Exit->Act->World->Prop}{md:Region.Mode}{S:World->Prop}{oi:Oper}{fuel:Nat}{listed:Array Bool}{a:Act}{T:List Nat}{w0 w:World}{m r:List ai}{b t:Nat}{cs cs':Array Value}{ty:TypeId}{p q:Operand}{G:World->Prop}(i j:Nat)(hL:Hid (BD T w0 w (m++r)))(hj:r[j]? =some (Proofs.YtddnnapoaonmjaaGreatDoor.box b t cs))(hS:∀w2,BD T w0 w2 (m++r.set j (Proofs.YtddnnapoaonmjaaGreatDoor.box b t cs'))->S w2)(h:∀w2,Hid (BD T w0 w2 (m++r.set j (Proofs.YtddnnapoaonmjaaGreatDoor.box b t cs')))->S w2->G w2)(ho:ops[i]? =some oi:=by rfl)(hop:oi.op= .store ty p q:=by rfl)(hd:oi.dst=none:=by rfl)(hg:oi.guard=none:=by rfl)(hp:a.eval p= .pointer (some ⟨b,0,none⟩):=by rfl)(hq:a.eval q= .agg cs':=by rfl)(hi:(P.info? ty).map (·.size)=some cs'.size:=by kernel_rfl)(hz:cs.size=cs'.size:=by rfl)(h1:cs'.all (·.oneCell')=true:=by simp[Value.oneCell'])(hr:Region.ready md ops listed=[i]:=by kernel_rfl)(e:∀w2,wpAnyH P md ops Q S fuel (listed.setIfInBounds i true) a w2=G w2:=by intro w2;(try simp only[sAq,sZq,sSq]);exact rfl):wpAnyH P md ops Q S (fuel+1) listed a w:=by
 have hl:=hL.o;have hb:=hl.box (m.length+j) (by rw[List.getElem?_append_right (by omega),Nat.add_sub_cancel_left];exact hj);have hl2:=hl.put (m.length+j) (by rw[List.getElem?_append_right (by omega),Nat.add_sub_cancel_left];exact hj) cs';rw[List.set_append_right _ _ (by omega),Nat.add_sub_cancel_left]at hl2;refine wpAnyH_ready hr (by simp) (AllReadyH.cons ho (fun K' hK=>?_) AllReadyH.nil);have hw:Region.wanted oi (yielded ops a.tmps)=true:=by simp[Region.wanted,hg]
 rw[if_pos hw];have hk:=hK.o a (w.setRow b cs') (hS _ hl2) (fun s=>by rw[e];exact h _ hl2 s);unfold Oper.wp execOp;simp only[hop,hp,hq,Instr.storeAt,Instr.sureAddr,Sem.run_bind,Sem.run_pure,Result.andThen_ok,run_storeVar_row w b t ty cs cs' hb hi hz h1];show K' (a.put oi.dst undef) _
 rw[hd];exact hk
theorem qC{P:Program}(w:World)(b o:Nat)(ty:TypeId)(cs:List Value)(d:TypeDesc)(hc:∀j v,cs[j]? =some v->w.cell? ⟨b,o+j,none⟩=some v)(hu:P.underlying ty=some d)(hd:(match d with | .struct _| .array _ _=>true|_=>false)=true)(hi:(P.info? ty).map (·.size)=some cs.length):
  (loadVar ty ⟨b,o,none⟩).run P w= .ok (.agg cs.toArray) w:=by
 have hl:(loadCells ⟨b,o,none⟩ cs.length).run P w= .ok cs.toArray w:=
  run_loadCells_list (P:=P) w ⟨b,o,none⟩ cs (fun j v hv=>by rw[Addr.add_lit];exact hc j v hv)
 cases hq:P.info? ty with
 |none=>simp[hq]at hi
 |some i=>
  have hs:i.size=cs.length:=by simpa[hq]using hi
  have hagg:(isAgg ty).run P w= .ok true w:=by
   unfold isAgg;rw[Sem.run_bind,run_underlying hu w];cases d<;>simp_all
  simp[loadVar,Sem.run_bind,hagg,sizeOf,typeInfo,hq,hs,hl]
theorem lK{P:Program}{ops:Array Oper}{rest:List Oper}{op:Oper}{a:Act}{w:World}{Q:Exit->Act->World->Prop}(hgd:op.guard=none)(ty:TypeId)(x:Operand)(ho:op.op= .load ty x)(b o:Nat)(hx:a.eval x= .pointer (some ⟨b,o,none⟩))(cs:List Value)(d:TypeDesc)(hc:∀j v,cs[j]? =some v->w.cell? ⟨b,o+j,none⟩=some v)(hu:P.underlying ty=some d)(hd:(match d with | .struct _| .array _ _=>true|_=>false)=true)(hi:(P.info? ty).map (·.size)=some cs.length)(h:wpList P ops Q rest (a.put op.dst (.agg cs.toArray)) w):wpList P ops Q (op::rest) a w:=by
 refine wpList_plain hgd fun K hK=>?_;unfold Oper.wp execOp;simp only[ho,hx,Instr.loadAt,Instr.sureAddr,Sem.run_bind,Sem.run_pure,Result.andThen_ok,qC w b o ty cs d hc hu hd hi];exact hK _ _ h
def Al(R:RV->Int->Int->Int->Int->List ai->Prop)(e:Ending)(m2:List ai):Prop:=∃(o:RV) (fine:Bool),e= .returned (.tuple #[.agg #[.slice o.ca o.cn o.cc,o.most,.slice o.la o.ln o.lc,.slice o.ha o.hn o.hc,.slice o.oa o.on o.oc,.slice o.sa o.sn o.sc],fine])/\∃(got:Int) (no:Int) (k:Int) (er:Int),(fine=true↔k=got/\er=no)/\R o got no k er m2
def M4(R:RV->Bool->Int->Bool->Int->List ai->Prop)(e:Ending)(m2:List ai):Prop:=∃(o:RV) (fine:Bool),e= .returned (.tuple #[.agg #[.slice o.ca o.cn o.cc,o.most,.slice o.la o.ln o.lc,.slice o.ha o.hn o.hc,.slice o.oa o.on o.oc,.slice o.sa o.sn o.sc],fine])/\∃(got:Bool) (no:Int) (k:Bool) (er:Int),(fine=true↔k=got/\er=no)/\R o got no k er m2
def tJ(R:RV->Int->Int->List ai->Prop)(e:Ending)(m2:List ai):Prop:=∃(o:RV) (fine:Bool),e= .returned (.tuple #[.agg #[.slice o.ca o.cn o.cc,o.most,.slice o.la o.ln o.lc,.slice o.ha o.hn o.hc,.slice o.oa o.on o.oc,.slice o.sa o.sn o.sc],fine])/\∃(no:Int) (er:Int),(fine=true↔er=no)/\R o no er m2
def ArmP(v:RV)(R:ME->Bool->Int->ME->Bool->Int->List ai->Prop)(e:Ending)(m2:List ai):Prop:=∃(fine:Bool),e= .returned (.tuple #[.agg #[.slice v.ca v.cn v.cc,v.most,.slice v.la v.ln v.lc,.slice v.ha v.hn v.hc,.slice v.oa v.on v.oc,.slice v.sa v.sn v.sc],fine])/\∃(a:ME) (got:Bool) (no:Int) (b:ME) (k:Bool) (er:Int),(fine=true↔k=got/\(a.v.nodes<=256/\b.v.nodes<=256/\a.plain=b.plain)/\er=no)/\R a got no b k er m2
def ArmC(R:RV->ME->Bool->Int->ME->Bool->Int->List ai->Prop)(e:Ending)(m2:List ai):Prop:=∃(o:RV) (fine:Bool),e= .returned (.tuple #[.agg #[.slice o.ca o.cn o.cc,o.most,.slice o.la o.ln o.lc,.slice o.ha o.hn o.hc,.slice o.oa o.on o.oc,.slice o.sa o.sn o.sc],fine])/\∃(a:ME) (got:Bool) (no:Int) (b:ME) (k:Bool) (er:Int),(fine=true↔k=got/\(a.v.nodes<=256/\b.v.nodes<=256/\a.plain=b.plain)/\er=no)/\R o a got no b k er m2
def ArmN(v:RV)(R:ME->Int->ME->Int->List ai->Prop)(e:Ending)(m2:List ai):Prop:=∃(fine:Bool),e= .returned (.tuple #[.agg #[.slice v.ca v.cn v.cc,v.most,.slice v.la v.ln v.lc,.slice v.ha v.hn v.hc,.slice v.oa v.on v.oc,.slice v.sa v.sn v.sc],fine])/\∃(a:ME) (no:Int) (b:ME) (er:Int),(fine=true↔(a.v.nodes<=256/\b.v.nodes<=256/\a.plain=b.plain)/\er=no)/\R a no b er m2
theorem KD:(prog.info? 75).map (fun i=>(i.zero,i.size,i.bytes))=some (some (.agg #[(),True,True]),3,56):=by kernel_rfl
theorem Kr:(prog.info? 284).map (fun i=>(i.zero,i.size,i.bytes))=some (some (.agg #[(),True]),2,32):=by kernel_rfl
theorem aG.iI{w:World}{a:Option Addr}{size n:Nat}{cs:List Value}(h:aG w a size n cs)(hl:cs.length=n*size)(hs:0<size):n=0\/∃b,a=some b/\∀j u,cs[j]? =some u->w.cell? (b.add j)=some u:=by
 by_cases h0:n=0
 .exact .inl h0
 .right
  obtain⟨b,o,rfl,hb,_⟩:=h.2 0 (by omega);refine⟨_,rfl,fun j u hu=>?_⟩;have hj:j<n*size:=by
   rcases Nat.lt_or_ge j (n*size)with h1|h1
   .exact h1
   .rw[List.getElem?_eq_none (by omega)]at hu;cases hu
  have hi:j / size<n:=(Nat.div_lt_iff_lt_mul hs).2 hj;obtain⟨b',o',hba,_,hc⟩:=h.2 (j / size) hi;injection hba with hba
  injection hba with g1 g2
  subst g1 g2;have h1:=hc (j % size) (Nat.mod_lt _ hs);have h2:j / size*size+j % size=j:=by rw[Nat.mul_comm];exact Nat.div_add_mod j size
  rw[h2,hu,Nat.add_assoc,h2]at h1;rw[Addr.add_lit];exact h1
theorem mg{w:World}{e size n:Nat}{v:Value}{xs:List Value}{a:Option Addr}{cap:Nat}(h:dZ w e size v n xs)(hv:v= .slice a n cap)(hs:0<size)(hn:n<=2000000):aG w a size n xs:=by
 by_cases h0:n=0
 .subst h0;exact⟨hn,fun i hi=>by omega⟩
 obtain⟨g,cap',cur,hv',hg,_⟩:=gD h (by omega);subst hv;injection hv' with h1 _ h3
 subst h1;refine⟨hn,fun i hi=>⟨g,0,rfl,hg.lt,fun j hj=>?_⟩⟩;have h4:(i+1)*size<=n*size:=Nat.mul_le_mul_right _ hi;have h5:(i+1)*size=i*size+size:=Nat.succ_mul i size;have hlt:i*size+j<xs.length:=by rw[h.1];omega
 rw[Nat.zero_add,eT h _ hlt,List.getElem?_eq_getElem hlt]
def gJ(k:Nat)(v v':RV):Prop:=
 v'.most=v.most/\(v'.ha,v'.hn,v'.hc)=(if k=0 then(v'.ha,v.hn+1,v'.hc)else(v.ha,v.hn,v.hc))/\(v'.oa,v'.on,v'.oc)=(if k=1 then(v'.oa,v.on+1,v'.oc)else(v.oa,v.on,v.oc))/\(v'.sa,v'.sn,v'.sc)=(if k=2 then(v'.sa,v.sn+1,v'.sc)else(v.sa,v.sn,v.sc))
theorem Wx(v:RV)(w:World)(hm:0<=v.most/\v.most<=65536)(hc:(v.cn:Int)<=v.most)(hf:v.most-(v.cn:Int)<1):Calls prog 149 #[v.val] w fun e w'=>e= .returned (.tuple #[v.val,(),(6:Int)])/\Touch [] w w':=by
 have HC:=hdq (fun W=>Vw v W hm hc hf);unfold RV.val;go_enter func149,ntmps149
 go_wp2_with fail
 refine ah ?_;intro w1 hw1;have BB:=hdq ((BD.nil' w).DZ hw1);simp only[nAq,cAq]at BB;generalize hb2:w.heap.size+1=b2 at BB|-;generalize hb1:w.heap.size=b1 at BB|-;refine(HC.o _).mono ?_;rintro e w2 ⟨rfl,ht⟩;have HL2:=hdq (BB.o.touch ht);go_upto_region 3 with fail
 refine ay ?_;intro w3 hw3;have BF:=hdq (HL2.o.DZ hw3);simp only[nAq,cAq]at BF;obtain⟨p0,p1,p2,p3,p4,p5,⟨f0,f1,f2,f3,f4,f5⟩,zp,CK,CO⟩:=BF.o.c6 0 rfl;obtain⟨q0,q1,q2,q3,q4,q5,⟨g0,g1,g2,g3,g4,g5⟩,zq,Fb,Fg⟩:=BF.o.c6 1 rfl;have n1:=BF.o.ne 0 1 rfl rfl (by decide);have n2:=Ne.symm n1;have HS:=hdq ((((((BF.o.set 1 rfl 0 (.slice v.ca v.cn v.cc)).set 1 rfl 1 (.int .i64 v.most)).set 1 rfl 2 (.slice v.la v.ln v.lc)).set 1 rfl 3 (.slice v.ha v.hn v.hc)).set 1 rfl 4 (.slice v.oa v.on v.oc)).set 1 rfl 5 (.slice v.sa v.sn v.sc));simp only[sSq,sZq,sAq]at HS;go_wp2;refine aP ?_;intro w5 DC;have Ca:=hdq (HS.o.toW DC);obtain⟨q0,q1,q2,q3,q4,q5,_,_,_,_⟩:=Ca.o.c6 1 rfl;refine bodyPost_ret (v:= .tuple #[.agg #[.slice v.ca v.cn v.cc,v.most,.slice v.la v.ln v.lc,.slice v.ha v.hn v.hc,.slice v.oa v.on v.oc,.slice v.sa v.sn v.sc],(),(6:Int)]) (by simp[results,results149,go_sem,q0,q1,q2,q3,q4,q5]) rfl ?_;exact⟨rfl,Ca.o.BN⟩
theorem AB(v:RV)(w:World)(hm:0<=v.most/\v.most<=65536)(hc:(v.cn:Int)<=v.most)(hf:v.most-(v.cn:Int)<2):Calls prog 150 #[v.val] w fun e w'=>e= .returned (.tuple #[v.val,(),(6:Int)])/\Touch [] w w':=by
 have HC:=hdq (fun W=>xR v W hm hc hf);unfold RV.val;go_enter func150,ntmps150
 go_wp2_with fail
 refine ah ?_;intro w1 hw1;have BB:=hdq ((BD.nil' w).DZ hw1);simp only[nAq,cAq]at BB;generalize hb2:w.heap.size+1=b2 at BB|-;generalize hb1:w.heap.size=b1 at BB|-;refine(HC.o _).mono ?_;rintro e w2 ⟨rfl,ht⟩;have HL2:=hdq (BB.o.touch ht);go_upto_region 3 with fail
 refine ay ?_;intro w3 hw3;have BF:=hdq (HL2.o.DZ hw3);simp only[nAq,cAq]at BF;obtain⟨p0,p1,p2,p3,p4,p5,⟨f0,f1,f2,f3,f4,f5⟩,zp,CK,CO⟩:=BF.o.c6 0 rfl;obtain⟨q0,q1,q2,q3,q4,q5,⟨g0,g1,g2,g3,g4,g5⟩,zq,Fb,Fg⟩:=BF.o.c6 1 rfl;have n1:=BF.o.ne 0 1 rfl rfl (by decide);have n2:=Ne.symm n1;have HS:=hdq ((((((BF.o.set 1 rfl 0 (.slice v.ca v.cn v.cc)).set 1 rfl 1 (.int .i64 v.most)).set 1 rfl 2 (.slice v.la v.ln v.lc)).set 1 rfl 3 (.slice v.ha v.hn v.hc)).set 1 rfl 4 (.slice v.oa v.on v.oc)).set 1 rfl 5 (.slice v.sa v.sn v.sc));simp only[sSq,sZq,sAq]at HS;go_wp2;refine aP ?_;intro w5 DC;have Ca:=hdq (HS.o.toW DC);obtain⟨q0,q1,q2,q3,q4,q5,_,_,_,_⟩:=Ca.o.c6 1 rfl;refine bodyPost_ret (v:= .tuple #[.agg #[.slice v.ca v.cn v.cc,v.most,.slice v.la v.ln v.lc,.slice v.ha v.hn v.hc,.slice v.oa v.on v.oc,.slice v.sa v.sn v.sc],(),(6:Int)]) (by simp[results,results150,go_sem,q0,q1,q2,q3,q4,q5]) rfl ?_;exact⟨rfl,Ca.o.BN⟩
theorem Aq(v:RV)(w:World)(th:Int)(ba:Option Addr)(bases:List MB)(bc:Nat)(ca:Option Addr)(conds:List Int)(cc:Nat)(hA:iJ w ba bases ca conds)(hbig:∀b∈bases,b.Big)(hright:¬nM v.hn v.on th bases conds):Calls prog 151 #[v.val,th,.slice ba bases.length bc,.slice ca conds.length cc] w fun e w'=>e= .returned (.tuple #[v.val,(),(2:Int)])/\Touch [] w w':=by
 have HR:=hdq (fun W (hW:Touch [] w W)=>zD v W th ba bases bc ca conds cc (by exact⟨⟨hA.1.1.aW hW,fun b hb=>(hA.1.2 b hb).aW hW⟩,hA.2.aW hW⟩) hbig);have HRO:=hdq hright;unfold RV.val at HR|-;go_enter func151,ntmps151
 go_wp2_with fail
 refine ah ?_;intro w1 hw1;have BB:=hdq ((BD.nil' w).DZ hw1);simp only[nAq,cAq]at BB;generalize hb2:w.heap.size+1=b2 at BB|-;generalize hb1:w.heap.size=b1 at BB|-;refine(HR.o _ BB.o.BN).mono ?_;rintro e w2 ⟨b,rfl,hb,ht⟩;obtain rfl:b=false:=by
  cases b
  .rfl
  .exact absurd (hb.1 rfl) HRO.o
 have HL2:=hdq (BB.o.touch ht);obtain⟨p0,p1,p2,p3,p4,p5,⟨f0,f1,f2,f3,f4,f5⟩,zp,CK,CO⟩:=HL2.o.c6 0 rfl;obtain⟨q0,q1,q2,q3,q4,q5,⟨g0,g1,g2,g3,g4,g5⟩,zq,Fb,Fg⟩:=HL2.o.c6 1 rfl;have n1:=HL2.o.ne 0 1 rfl rfl (by decide);have n2:=Ne.symm n1;have HS:=hdq ((((((HL2.o.set 1 rfl 0 (.slice v.ca v.cn v.cc)).set 1 rfl 1 (.int .i64 v.most)).set 1 rfl 2 (.slice v.la v.ln v.lc)).set 1 rfl 3 (.slice v.ha v.hn v.hc)).set 1 rfl 4 (.slice v.oa v.on v.oc)).set 1 rfl 5 (.slice v.sa v.sn v.sc));simp only[sSq,sZq,sAq]at HS;go_wp2;refine aP ?_;intro w5 DC;have Ca:=hdq (HS.o.toW DC);obtain⟨q0,q1,q2,q3,q4,q5,_,_,_,_⟩:=Ca.o.c6 1 rfl;refine bodyPost_ret (v:= .tuple #[.agg #[.slice v.ca v.cn v.cc,v.most,.slice v.la v.ln v.lc,.slice v.ha v.hn v.hc,.slice v.oa v.on v.oc,.slice v.sa v.sn v.sc],(),(2:Int)]) (by simp[results,results151,go_sem,q0,q1,q2,q3,q4,q5]) rfl ?_;exact⟨rfl,Ca.o.BN⟩
theorem VJ(v:RV)(w:World)(th:Int)(ba:Option Addr)(bases:List MB)(bc:Nat)(ca:Option Addr)(conds:List Int)(cc:Nat)(hA:iJ w ba bases ca conds)(hbig:∀b∈bases,b.Big)(hright:nM v.hn v.on th bases conds)(hm:0<=v.most/\v.most<=65536)(hc:(v.cn:Int)<=v.most)(hf:v.most-(v.cn:Int)<1):Calls prog 151 #[v.val,th,.slice ba bases.length bc,.slice ca conds.length cc] w fun e w'=>e= .returned (.tuple #[v.val,(),(6:Int)])/\Touch [] w w':=by
 have HR:=hdq (fun W (hW:Touch [] w W)=>zD v W th ba bases bc ca conds cc (by exact⟨⟨hA.1.1.aW hW,fun b hb=>(hA.1.2 b hb).aW hW⟩,hA.2.aW hW⟩) hbig);have HRO:=hdq hright;have HC:=hdq (fun W=>Vy v W hm hc hf);clear hm hc hf;clear hA hbig hright;unfold RV.val at HR|-;go_enter func151,ntmps151
 go_wp2_with fail
 refine ah ?_;intro w1 hw1;have BB:=hdq ((BD.nil' w).DZ hw1);simp only[nAq,cAq]at BB;generalize hb2:w.heap.size+1=b2 at BB|-;generalize hb1:w.heap.size=b1 at BB|-;clear hw1 hb2 hb1;refine(HR.o _ BB.o.BN).mono ?_;rintro e w2 ⟨b,rfl,hb,ht⟩;obtain rfl:b=true:=by
  exact hb.2 HRO.o
 have HL2:=hdq (BB.o.touch ht);clear ht BB HR hb;obtain⟨p0,p1,p2,p3,p4,p5,⟨f0,f1,f2,f3,f4,f5⟩,zp,_,_⟩:=HL2.o.c6 0 rfl;go_wp2_with fail
 clear p0 p1 p2 p3 p4 p5 f0 f1 f2 f3 f4 f5 zp;refine(HC.o _).mono ?_;rintro e w3 ⟨rfl,ht⟩;have BF:=hdq (HL2.o.touch ht);clear ht HL2 HC;go_upto_region 5 with fail
 refine ay ?_;intro w4 hw4;have BH:=hdq (BF.o.DN hw4);simp only[nAq,cAq]at BH;clear hw4 BF;obtain⟨p0,p1,p2,p3,p4,p5,⟨f0,f1,f2,f3,f4,f5⟩,zp,CK,CO⟩:=BH.o.c6 0 rfl;obtain⟨q0,q1,q2,q3,q4,q5,⟨g0,g1,g2,g3,g4,g5⟩,zq,Fb,Fg⟩:=BH.o.c6 1 rfl;have n1:=BH.o.ne 0 1 rfl rfl (by decide);have n2:=Ne.symm n1;have HS:=hdq ((((((BH.o.set 1 rfl 0 (.slice v.ca v.cn v.cc)).set 1 rfl 1 (.int .i64 v.most)).set 1 rfl 2 (.slice v.la v.ln v.lc)).set 1 rfl 3 (.slice v.ha v.hn v.hc)).set 1 rfl 4 (.slice v.oa v.on v.oc)).set 1 rfl 5 (.slice v.sa v.sn v.sc));simp only[sSq,sZq,sAq]at HS;clear BH;go_wp2;refine aP ?_;intro w5 DC;have Ca:=hdq (HS.o.toW DC);clear DC HS p0 p1 p2 p3 p4 p5 f0 f1 f2 f3 f4 f5 zp CK CO q0 q1 q2 q3 q4 q5 g0 g1 g2 g3 g4 g5 zq Fb Fg n1 n2;obtain⟨q0,q1,q2,q3,q4,q5,_,_,_,_⟩:=Ca.o.c6 1 rfl;refine bodyPost_ret (v:= .tuple #[.agg #[.slice v.ca v.cn v.cc,v.most,.slice v.la v.ln v.lc,.slice v.ha v.hn v.hc,.slice v.oa v.on v.oc,.slice v.sa v.sn v.sc],(),(6:Int)]) (by simp[results,results151,go_sem,q0,q1,q2,q3,q4,q5]) rfl ?_;exact⟨rfl,Ca.o.BN⟩
def BO.vl(x:BO):Value:= .agg #[x.what,x.a,x.b,x.c,x.side,x.e.sync,x.e.thread,x.e.branch,x.e.flag,x.e.v.kind,x.e.v.num,.slice x.e.v.addr x.e.v.parts.length x.e.v.cap,.slice x.ba x.bases.length x.bc,.slice x.ca x.conds.length x.cc,x.v.kind,x.v.num,.slice x.v.addr x.v.parts.length x.v.cap]
theorem Pm{f:FuncId}{args:Array Value}{m:List ai}{R:Ending->List ai->Prop}(h:aai prog f args [m] fun e Y=>∃m',R e m'/\Y=[m']):Does f args m R:=fun T w hl=>(h T w (by simpa using hl)).mono fun e w' ⟨Y,_,⟨m',hR,hY⟩,hl'⟩=>⟨m',hR,by rw[hY]at hl';simpa using hl'⟩
theorem acX(e:Int):aai prog 9 #[e] [] (xq (fun _:Unit=>True) (fun _=> .int .i64 e) fun _=>[]):=fun T w hl=>(bQ w e).mono fun e w' ⟨he,hw⟩=>⟨[],rfl,⟨(),trivial,he,rfl⟩,hw▸hl⟩
theorem tellsq{f:FuncId}{args:Array Value}{m:List ai}{p:Prop}(h:∀w,(∃T w0 R,BD T w0 w (m++R))->Calls prog f args w fun e w'=>aI p w e w'):aai prog f args [m] (xq (fun c:Bool=>c=true↔p) (fun c=> .bool c) fun _=>[m]):=fun T w hl=>(h w ⟨T,w,[],by simpa using hl⟩).mono fun e w' ⟨c,he,hc,ht⟩=>⟨[m],rfl,⟨c,hc,he,rfl⟩,hl.touch ht⟩
theorem abO{a b:ME}{m:List ai}(c:Bool)(hc:c=true↔(a.v.nodes<=256/\b.v.nodes<=256/\a.plain=b.plain))(hin:∃(i:Nat) (P:World->Prop),m[i]? =some (aA P)/\∀W,P W->(a.v.In W/\a.v.nodes<=1048576)/\(b.v.In W/\b.v.nodes<=1048576)):aai prog 77 #[.agg #[a.sync,a.thread,a.branch,a.flag,a.v.kind,a.v.num,.slice a.v.addr a.v.parts.length a.v.cap],.agg #[b.sync,b.thread,b.branch,b.flag,b.v.kind,b.v.num,.slice b.v.addr b.v.parts.length b.v.cap]] [m] (xq (fun _:Unit=>True) (fun _=> .bool c) fun _=>[m]):=(tellsq (p:=a.v.nodes<=256/\b.v.nodes<=256/\a.plain=b.plain) fun w ⟨T,w0,R,hl⟩=>by
 obtain⟨i,P,hi,hP⟩:=hin;have h2:=hP w (hl.still i (by rw[List.getElem?_append_left (List.getElem?_eq_some_iff.1 hi).1];exact hi));exact gY a b w h2.1.1 h2.2.1 h2.1.2 h2.2.2).mono fun e Y ⟨d,hd,he,hY⟩=>⟨(),trivial,by rw[he,Bool.eq_iff_iff.2 (hd.trans hc.symm)],hY⟩
theorem acQ{G:Prop}(h:G:=by
  refine go3 fun _ _ _=>?_;refine cq (aa8 Da) ?_;rintro _ _ ⟨m1,⟨o,got,no,rfl,hP⟩,rfl⟩;refine⟨_,rfl,nq ?_⟩;refine go1 fun _=>?_;refine cq (aa8 hP) ?_;rintro _ _ ⟨m2,⟨k,er,rfl,hR⟩,rfl⟩;refine⟨_,rfl,nq ?_⟩;refine go ?_;by_cases hk:k=got
  .subst hk
   refine W.rgd ?_;repeat (refine' rgk ?_;rotate_left)
   refine rgz 0 ?_ ?_;refine go ?_;refine cr (acX er) fun _ _=>?_;refine go ?_;refine W.abg ?_;exact⟨m2,⟨o,_,rfl,_,_,_,_,by simp,hR⟩,rfl⟩
   kernel_rfl
  .have hkb:(k==got)=false:=by simpa using hk
   have hkc:(got==k)=false:=by simpa using fun h=>hk h.symm
   refine W.rgd ?_;repeat (refine' rgk ?_;rotate_left)
   refine rgz 0 ?_ ?_;refine go ?_;refine W.abg ?_;exact⟨m2,⟨o,_,rfl,_,_,_,_,by simp[hk],hR⟩,rfl⟩
   kernel_rfl):G:=h
theorem adb{G:Prop}(h:G:=by
  refine go3 fun _ _ _=>?_;refine cq (aa8 Da) ?_;rintro _ _ ⟨m1,⟨o,got,no,rfl,hP⟩,rfl⟩;refine⟨_,rfl,nq ?_⟩;refine go1 fun _=>?_;refine cq (aa8 hP) ?_;rintro _ _ ⟨m2,⟨k,er,rfl,hR⟩,rfl⟩;refine⟨_,rfl,nq ?_⟩;refine go ?_;by_cases hk:k=got
  .subst hk
   refine W.rgd ?_;repeat (refine' rgk ?_;rotate_left)
   refine rgz 0 ?_ ?_;refine go ?_;refine cr (acX er) fun _ _=>?_;refine go ?_;refine W.abg ?_;exact⟨m2,⟨o,_,rfl,_,_,_,_,by simp,hR⟩,rfl⟩
   kernel_rfl
  .have hkb:(k==got)=false:=by simpa using hk
   have hkc:(got==k)=false:=by simpa using fun h=>hk h.symm
   refine W.rgd ?_;repeat (refine' rgk ?_;rotate_left)
   refine rgz 0 ?_ ?_;refine go ?_;refine W.abg ?_;exact⟨m2,⟨o,_,rfl,_,_,_,_,by simp[hk],hR⟩,rfl⟩
   kernel_rfl):G:=h
theorem acu{G:Prop}(h:G:=by
  refine go3 fun _ _ _=>?_;refine cq (aa8 Da) ?_;rintro _ _ ⟨m1,⟨o,no,rfl,hP⟩,rfl⟩;refine⟨_,rfl,nq ?_⟩;refine go1 fun _=>?_;first
  |(refine W.rgd ?_;(repeat (refine' rgk ?_;rotate_left));refine rgz 0 ?_ ?_;refine go ?_)
  |skip
  refine cq (aa8 hP) ?_;rintro _ _ ⟨m2,⟨er,rfl,hR⟩,rfl⟩;refine⟨_,rfl,nq ?_⟩;refine go ?_;refine cr (acX er) fun _ _=>?_;refine go ?_;refine W.abg ?_;exact⟨m2,⟨o,_,rfl,_,_,by simp,hR⟩,rfl⟩
  kernel_rfl):G:=h
theorem armP{G:Prop}(h:G:=by
  refine go3 fun _ _ _=>?_;refine cq (aa8 Da) ?_;rintro _ _ ⟨m1,⟨a,got,no,rfl,hP⟩,rfl⟩;refine⟨_,rfl,nq ?_⟩;refine go1 fun _=>?_;refine cq (aa8 hP) ?_;rintro _ _ ⟨m2,⟨b,k,er,rfl,hin,hR⟩,rfl⟩;refine⟨_,rfl,nq ?_⟩;refine go1 fun _=>?_;by_cases hk:k=got
  .subst hk
   by_cases hp:a.v.nodes<=256/\b.v.nodes<=256/\a.plain=b.plain
   .first
    |(refine W.rgd ?_;(repeat (refine' rgk ?_;rotate_left));refine rgz 0 ?_ ?_;refine go ?_)
    |skip
    refine cr (abO true (by simp[hp]) hin) fun _ _=>?_;refine go ?_;refine cr (acX er) fun _ _=>?_;refine go ?_;refine W.abg ?_;exact⟨m2,⟨_,rfl,_,_,_,_,_,_,by simp[hp],hR⟩,rfl⟩
    kernel_rfl
   .first
    |(refine W.rgd ?_;(repeat (refine' rgk ?_;rotate_left));refine rgz 0 ?_ ?_;refine go ?_)
    |skip
    refine cr (abO false (by simp[hp]) hin) fun _ _=>?_;refine go ?_;refine W.abg ?_;exact⟨m2,⟨_,rfl,_,_,_,_,_,_,by simp[hp],hR⟩,rfl⟩
    kernel_rfl
  .have hkb:(k==got)=false:=by simpa using hk
   have hkc:(got==k)=false:=by simpa using fun h=>hk h.symm
   first
   |(refine W.rgd ?_;(repeat (refine' rgk ?_;rotate_left));refine rgz 0 ?_ ?_;skip)
   |skip
   refine go ?_;refine W.abg ?_;exact⟨m2,⟨_,rfl,_,_,_,_,_,_,by simp[hk],hR⟩,rfl⟩
   kernel_rfl):G:=h
theorem armC{G:Prop}(h:G:=by
  refine go3 fun _ _ _=>?_;refine cq (aa8 Da) ?_;rintro _ _ ⟨m1,⟨o,a,got,no,rfl,hP⟩,rfl⟩;refine⟨_,rfl,nq ?_⟩;refine go2 fun _ _=>?_;refine cq (aa8 hP) ?_;rintro _ _ ⟨m2,⟨b,k,er,rfl,hin,hR⟩,rfl⟩;refine⟨_,rfl,nq ?_⟩;refine go1 fun _=>?_;by_cases hk:k=got
  .subst hk
   by_cases hp:a.v.nodes<=256/\b.v.nodes<=256/\a.plain=b.plain
   .first
    |(refine W.rgd ?_;(repeat (refine' rgk ?_;rotate_left));refine rgz 0 ?_ ?_;refine go ?_)
    |skip
    refine cr (abO true (by simp[hp]) hin) fun _ _=>?_;refine go ?_;refine cr (acX er) fun _ _=>?_;refine go ?_;refine W.abg ?_;exact⟨m2,⟨o,_,rfl,_,_,_,_,_,_,by simp[hp],hR⟩,rfl⟩
    kernel_rfl
   .first
    |(refine W.rgd ?_;(repeat (refine' rgk ?_;rotate_left));refine rgz 0 ?_ ?_;refine go ?_)
    |skip
    refine cr (abO false (by simp[hp]) hin) fun _ _=>?_;refine go ?_;refine W.abg ?_;exact⟨m2,⟨o,_,rfl,_,_,_,_,_,_,by simp[hp],hR⟩,rfl⟩
    kernel_rfl
  .have hkb:(k==got)=false:=by simpa using hk
   have hkc:(got==k)=false:=by simpa using fun h=>hk h.symm
   first
   |(refine W.rgd ?_;(repeat (refine' rgk ?_;rotate_left));refine rgz 0 ?_ ?_;skip)
   |skip
   refine go ?_;refine W.abg ?_;exact⟨m2,⟨o,_,rfl,_,_,_,_,_,_,by simp[hk],hR⟩,rfl⟩
   kernel_rfl):G:=h
theorem armN{G:Prop}(h:G:=by
  refine go3 fun _ _ _=>?_;refine cq (aa8 Da) ?_;rintro _ _ ⟨m1,⟨a,no,rfl,hP⟩,rfl⟩;refine⟨_,rfl,nq ?_⟩;refine go1 fun _=>?_;refine cq (aa8 hP) ?_;rintro _ _ ⟨m2,⟨b,er,rfl,hin,hR⟩,rfl⟩;refine⟨_,rfl,nq ?_⟩;refine go1 fun _=>?_;by_cases hp:a.v.nodes<=256/\b.v.nodes<=256/\a.plain=b.plain
  .first
   |(refine W.rgd ?_;(repeat (refine' rgk ?_;rotate_left));refine rgz 0 ?_ ?_;refine go ?_)
   |skip
   refine cr (abO true (by simp[hp]) hin) fun _ _=>?_;refine go ?_;refine cr (acX er) fun _ _=>?_;refine go ?_;refine W.abg ?_;exact⟨m2,⟨_,rfl,_,_,_,_,by simp[hp],hR⟩,rfl⟩
   kernel_rfl
  .first
   |(refine W.rgd ?_;(repeat (refine' rgk ?_;rotate_left));refine rgz 0 ?_ ?_;refine go ?_)
   |skip
   refine cr (abO false (by simp[hp]) hin) fun _ _=>?_;refine go ?_;refine W.abg ?_;exact⟨m2,⟨_,rfl,_,_,_,_,by simp[hp],hR⟩,rfl⟩
   kernel_rfl):G:=h
theorem ZU{L:PL}(T:List Nat)(w:World)(vc vl:Value)(s:Ar)(h:BD T w w [Pt L vc vl s]):
  Calls prog 224 #[bI vc s.most vl] w fun e w'=>∃CQ Dk L',e= .returned (.tuple #[bI CQ s.most Dk,.agg #[.int .i64 ((s.au 1).2.1:Int),True,True],.int .i64 ((s.au 1).2.2:Int)])/\(∀x∈L,x∈L')/\BD T w w' [Pt L' CQ Dk (s.au 1).1]:=by
 obtain⟨ca,cp,rfl,_,_⟩:=aK (h.O7 0 rfl).Dh;obtain⟨la,lp,rfl,_,_⟩:=aK (h.O7 0 rfl).log;have BG:=hdq h;unfold bI;go_enter func224,ntmps224
 go_wp2_with fail
 refine ah ?_;intro w1 hw1;have BB:=hdq (BG.o.UX hw1);simp only[nAq,cAq]at BB;generalize hb3:w.heap.size+1+1=b3 at BB|-;generalize hb2:w.heap.size+1=b2 at BB|-;refine(BB.o.Pw 0 rfl (fun T h=>aae T _ _ _ s h)).mono ?_;rintro e w2 ⟨CQ,Dk,L1,rfl,hL1,hL⟩;have Qj:=hdq hL1;obtain⟨CR,CP,rfl,_,_⟩:=aK (hL.O7 0 rfl).Dh;obtain⟨Dc,Df,rfl,_,_⟩:=aK (hL.O7 0 rfl).log;have HL2:=hdq hL;simp only[sZq,sSq]at HL2;unfold bI;obtain⟨p0,p1,p2,f0,f1,f2,z4,z41,z42⟩:=HL2.o.c3 2 rfl;obtain⟨q0,q1,q2,g0,g1,g2,z5,z51,z52⟩:=HL2.o.c3 3 rfl;have m1:=HL2.o.ne 2 3 rfl rfl (by decide);have m2:=Ne.symm m1;generalize hr:s.au 1=r at HL2|-;go_wp2;refine dY ?_;intro w3 hw3;have BF:=hdq (((((((HL2.o.set 2 rfl 0 (.slice CR r.1.C.length CP)).set 2 rfl 1 (.int .i64 (s.most:Int))).set 2 rfl 2 (.slice Dc r.1.L.length Df)).set 3 rfl 0 (.int .i64 (r.2.1:Int))).set 3 rfl 1 (.slice none 0 0)).set 3 rfl 2 (.slice none 0 0)).DN hw3);simp only[sSq,sZq,sAq,cAq,nAq]at BF;obtain⟨p0,p1,p2,_,_,_,_,_,_⟩:=BF.o.c3 2 rfl;obtain⟨q0,q1,q2,_,_,_,_,_,_⟩:=BF.o.c3 3 rfl;refine bodyPost_ret (v:= .tuple #[.agg #[.slice CR r.1.C.length CP,(s.most:Int),.slice Dc r.1.L.length Df],.agg #[(r.2.1:Int),True,True],(r.2.2:Int)]) (by simp[results,results224,go_sem,p0,p1,p2,q0,q1,q2]) rfl ?_;subst hr;exact⟨.slice CR _ CP,.slice Dc _ Df,L1,rfl,Qj.o,BF.o.sel [0] rfl (by decide)⟩
theorem ZR{L:PL}(T:List Nat)(w:World)(vc vl:Value)(s:Ar)(h:BD T w w [Pt L vc vl s])(hok:s.C.length+2<=s.most):
  Calls prog 225 #[bI vc s.most vl] w (Qz L T w (s.au 2).1 (fun CQ Dk=> .tuple #[bI CQ s.most Dk,.agg #[(s.C.length:Int),True],()])):=by
 have hbe:∀W,(Instr.build 284 #[(0,.int .i64 (s.C.length:Int))]).run prog W= .ok (.agg #[(s.C.length:Int),True]) W:=fun W=>run_build W 284 _ _ (by kernel_rfl);have hA:s.au 2=((s.au 2).1,s.C.length,0):=by
  unfold Ar.au;rw[if_neg (by omega),if_neg (by omega)]
 obtain⟨ca,cp,rfl,_,_⟩:=aK (h.O7 0 rfl).Dh;obtain⟨la,lp,rfl,_,_⟩:=aK (h.O7 0 rfl).log;have BG:=hdq h;unfold bI;go_enter func225,ntmps225
 go_wp2_with fail
 refine ah ?_;intro w1 hw1;have BB:=hdq (BG.o.UX hw1);simp only[nAq,cAq]at BB;generalize hb3:w.heap.size+1+1=b3 at BB|-;generalize hb2:w.heap.size+1=b2 at BB|-;refine(BB.o.TJ 0 rfl 2).mono ?_;rintro e w2 ⟨CQ,L1,rfl,hL1,hL⟩;have Qj:=hdq hL1;rw[hA]at hL|-;generalize hr:(s.au 2).1=r at hL|-;dsimp only at hL|-;obtain⟨CR,CP,rfl,_,_⟩:=aK (hL.O7 0 rfl).Dh;have HL2:=hdq hL;simp only[sZq,sSq]at HL2;unfold bI;obtain⟨p0,p1,p2,f0,f1,f2,z4,z41,z42⟩:=HL2.o.c3 2 rfl;obtain⟨q0,q1,g0,g1,z5,z51,z52⟩:=HL2.o.c2 3 rfl;have m1:=HL2.o.ne 2 3 rfl rfl (by decide);have m2:=Ne.symm m1;go_wp2;refine dY ?_;intro w3 hw3;have BF:=hdq ((((((HL2.o.set 2 rfl 0 (.slice CR r.C.length CP)).set 2 rfl 1 (.int .i64 (s.most:Int))).set 2 rfl 2 (.slice la s.L.length lp)).set 3 rfl 0 (.int .i64 (s.C.length:Int))).set 3 rfl 1 (.slice none 0 0)).DN hw3);simp only[sSq,sZq,sAq,cAq,nAq]at BF;obtain⟨p0,p1,p2,_,_,_,_,_,_⟩:=BF.o.c3 2 rfl;obtain⟨q0,q1,_,_,_,_,_⟩:=BF.o.c2 3 rfl;refine bodyPost_ret (v:= .tuple #[.agg #[.slice CR r.C.length CP,(s.most:Int),.slice la s.L.length lp],.agg #[(s.C.length:Int),True],()]) (by simp[results,results225,go_sem,p0,p1,p2,q0,q1]) rfl ?_;subst hr;exact⟨_,_,L1,[],rfl,Qj.o,BF.o.sel [0] rfl (by decide)⟩
theorem Qp{L:PL}{T:List Nat}{w0 w:World}{v:RV}{s:Ar}{r:List ai}(h:BD T w0 w (Pt L (.slice v.ca v.cn v.cc) (.slice v.la v.ln v.lc) s::r)):v.cn=s.C.length/\v.ln=s.L.length:=by
 obtain⟨ca,cp,h1,_,_⟩:=aK (h.O7 0 rfl).Dh;obtain⟨la,lp,h2,_,_⟩:=aK (h.O7 0 rfl).log;injection h1 with _ h1 _
 injection h2 with _ h2 _
 exact⟨h1,h2⟩
end Go.Proofs.YtddnnapoaonmjaaGreatDoor
