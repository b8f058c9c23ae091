/-
  Texts of FirePlays, laid together by program.
-/
import Derived.Test.YtegejdlglonflaaGreatDoorWZ28
import Derived.IntWalk
namespace Go.Proofs.YtegejdlglonflaaGreatDoor
open Go.RowKit Go.Shelf Go.Proofs.Tryz
set_option maxRecDepth 100000
set_option maxHeartbeats 8000000
set_option linter.unusedVariables false
set_option linter.unusedSimpArgs false
theorem none16(v:MT)(w:World):Calls prog 285 #[v.val] w (aI v.E8 w):=by
 have HT:Hid (Touch [] w (w.alloc (.cells #[v.kind,v.num,.slice v.addr v.parts.length v.cap] 58))):=(Touch.refl [] w).alloc _;have z1:w.heap.size<w.heap.size+1:=by omega
 have HY:Hid (v.E8->aI v.E8 w (.returned (.bool true)) (w.alloc (.cells #[v.kind,v.num,.slice v.addr v.parts.length v.cap] 58))):=fun h=>⟨true,rfl,by simp[h],HT.o⟩;have HN:Hid (¬v.E8->aI v.E8 w (.returned (.bool false)) (w.alloc (.cells #[v.kind,v.num,.slice v.addr v.parts.length v.cap] 58))):=fun h=>⟨false,rfl,by simp[h],HT.o⟩;obtain⟨p,hp⟩:∃p,v.E8=p:=⟨_,rfl⟩;simp only[MT.val,MT.sl];by_cases h1:v.kind=0
 .by_cases h2:v.num=0
  .by_cases h3:v.parts.length=0
   .have HE:=hdq (HY.o ⟨h1,h2,h3⟩)
    clear HY HN HT;rw[h1,h2,h3]at HE|-;go_enter func285,ntmps285
    go_wp2;go_ret
    exact HE.o
   .have HE:=hdq (HN.o (fun h=>h3 h.2.2))
    have h3':((v.parts.length:Int)==0)=false:=by simp;exact fun h=>h3 (by simp[h])
    clear HY HN HT;rw[h1,h2]at HE|-;go_enter func285,ntmps285
    go_wp2;go_ret
    exact HE.o
  .have HE:=hdq (HN.o (fun h=>h2 h.2.1))
   clear HY HN HT;rw[h1]at HE|-;have h2':decide (v.num=0)=false:=decide_eq_false h2;go_enter func285,ntmps285
   go_wp2;go_ret
   exact HE.o
 .have HE:=hdq (HN.o (fun h=>h1 h.1))
  have h1':decide (v.kind=0)=false:=decide_eq_false h1;clear HY HN HT;go_enter func285,ntmps285
  go_wp2;go_ret
  exact HE.o
def xW(k:Int)(l:List Int)(w:World):Ending->World->Prop:=aI (k∈l) w
theorem Oy(w:World)(a:Option Addr)(c:Nat)(l:List Int)(k:Int)(h:aG w a 1 l.length (l.flatMap fq)):Calls prog 284 #[k,.slice a l.length c] w (xW k l w):=by
 have HR:=hdq h;have hl6:=h.1;have DJ:Hid (k∉l->∀W,Touch [] w W->xW k l w (.returned (.bool false)) W):=fun h W hW=>⟨false,rfl,by simp[h],hW⟩;have Dj:Hid (k∈l->∀W,Touch [] w W->xW k l w (.returned (.bool true)) W):=fun h W hW=>⟨true,rfl,by simp[h],hW⟩;clear h;go_enter func284,ntmps284
 go_wp2;go_loopw [5] (fun p wr=>∃j:Nat,p= .int .i64 (j:Int)/\j<=l.length/\Hid (Touch [] w wr)/\Hid (∀i (g:i<l.length),i<j->l[i]≠k)) (fun p _=>l.length-(intOf p).toNat)
 case atStart=>exact⟨0,rfl,Nat.zero_le _,Touch.refl _ _,fun i g h0=>absurd h0 (Nat.not_lt_zero _)⟩
 case round=>
  obtain⟨j,rfl,hj,HT,HA⟩:=hrel;have hj0:(0:Int)<=(j:Int):=by omega
  by_cases hjl:j<l.length
  .have Cc:(j:Int)<(l.length:Int):=by omega
   obtain⟨b,o,hba,hb,hc⟩:=aG.at (f:=fq) (fun _=>rfl) (HR.o.aW HT.o) j hjl;have hm:=hc 0 Nat.one_pos;have MZ:=hdq (List.getElem_mem hjl);have HJ:Hid (l[j]≠k->∀i (g:i<l.length),i<j+1->l[i]≠k):=fun h i g hi=>by
    by_cases hij:i=j
    .subst hij;exact h
    .exact HA.o i g (by omega)
   obtain⟨y,hy⟩:∃y,l[j]=y:=⟨_,rfl⟩;rw[hy,Nat.mul_one,Nat.add_zero]at hm;have hm2:wr.cell? ⟨b,o+j,none⟩=some (.int .i64 y):=hm;rw[hy]at MZ HJ;have FD:=hdq hba;rw[hba];clear hc hy hm hba;by_cases hq:y=k
   .have hb0:(y==k)=true:=by simp[hq]
    have HE:=hdq (Dj.o (hq▸MZ.o) wr HT.o);clear hq HJ HA MZ;go_wp2;go_ret
    exact HE.o
   .have hb0:(y==k)=false:=by simp[hq]
    have HA2:=hdq (HJ.o hq);clear hq HJ HA MZ;go_wp2;go_roundw
    case rel=>exact⟨j+1,by go_num,by omega,HT,HA2⟩
    case measure=>simp[intOf];omega
  .have Cc:¬(j:Int)<(l.length:Int):=by omega
   have HE:=hdq (DJ.o (fun h=>by
    obtain⟨q,hq,he⟩:=List.getElem_of_mem h;exact HA.o q hq (by omega) he) wr HT.o)
   go_wp2;go_ret
   exact HE.o
def jQ(n1 n2:Nat)(l:List Int)(b:MB)(w:World):Ending->World->Prop:=aI (eD n1 n2 l b) w
theorem base16(v:RV)(b:MB)(w:World)(hb:b.Mem w)(hbig:b.Big)(a:Option Addr)(c:Nat)(l:List Int)(hl:aG w a 1 l.length (l.flatMap fq)):Calls prog 219 #[v.val,b.val,.slice a l.length c] w (jQ v.hn v.on l b w):=by
 have HB:=hdq hb;have HG:=hdq hbig;have hdl:b.wraps.length<=2000000/\b.aT.length<=2000000:=⟨hb.2.1.1.1,hb.2.2.1⟩;have HAM:=hdq (fun W (hW:Touch [] w W) k=>Oy W a c l k (hl.aW hW));have FU:Hid (∀W,Touch [] w W->Calls prog 188 #[.agg #[b.v.kind,b.v.num,.slice b.v.addr b.v.parts.length b.v.cap]] W (aI b.v.plain.Ok W)):=fun W hW=>sN b.v W (hb.1.aO hW) hbig.1;have FO:Hid (∀W,Touch [] w W->Calls prog 285 #[.agg #[b.v.kind,b.v.num,.slice b.v.addr b.v.parts.length b.v.cap]] W (aI b.v.E8 W)):=fun W hW=>none16 b.v W;have DJ:Hid (∀W,Touch [] w W->¬eD v.hn v.on l b->jQ v.hn v.on l b w (.returned (.bool false)) W):=fun W hW h=>⟨false,rfl,by simp[h],hW⟩;have HBO:Hid (∀W (f:Bool),Touch [] w W->(f=true↔eD v.hn v.on l b)->jQ v.hn v.on l b w (.returned (.bool f)) W):=fun W f hW h=>⟨f,rfl,h,hW⟩;clear hb hbig hl;simp only[MB.val,RV.val];go_enter func219,ntmps219
 go_upto_region 1 with fail
 refine ay ?_;intro w2 hw2;have HL2:=hdq ((BD.nil' w).DZ hw2);simp only[nAq]at HL2;generalize hb4:w.heap.size+1=b4 at HL2|-;generalize hb3:w.heap.size=b3 at HL2|-;clear hw2 hb4 hb3;obtain⟨x0,x1,x2,x3,x4,x5,x6,_,zx,_,_⟩:=HL2.o.c7 1 rfl;by_cases h2:b.wraps.length<=32
 .have d2:decide ((32:Int)<(b.wraps.length:Int))=false:=decide_eq_false (by omega)
  by_cases h3:b.aT.length<=32
  .have d3:decide ((32:Int)<(b.aT.length:Int))=false:=decide_eq_false (by omega)
   have H23:Hid (b.wraps.length<=32/\b.aT.length<=32):=⟨h2,h3⟩;go_wp2;have LV:=hdq (fun W (hW:Touch [] w2 W)=>((HL2.o.touch hW).c7 1 rfl).2.2.2.2.2.1);have HB7:=hdq (fun W (hW:Touch [] w2 W)=>(HL2.o.touch hW).c7 1 rfl);have HR6:=hdq (fun W (hW:Touch [] w2 W)=>(HL2.o.touch hW).c6 0 rfl);have HT0:=hdq HL2.o.BN;have OO:=hdq (fun W (hW:Touch [] w2 W)=>(HB.o.aW (HT0.o.trans' hW)).2.1);have Gb:=hdq (fun W (hW:Touch [] w2 W)=>(HB.o.aW (HT0.o.trans' hW)).2.2);clear x0 x1 x2 x3 x4 x5 x6 zx HL2 d2 d3;go_loopw [7] (fun p wr=>∃i:Nat,p= .int .i64 (i:Int)/\i<=b.wraps.length/\Hid (Touch [] w2 wr)/\Hid (∀q (hq:q<b.wraps.length),q<i->∀t∈b.wraps[q].args,t.plain.Ok)) (fun p _=>b.wraps.length-(intOf p).toNat)
   case atStart=>exact⟨0,rfl,Nat.zero_le _,Touch.refl _ _,fun q hq h0=>absurd h0 (Nat.not_lt_zero _)⟩
   case round=>
    obtain⟨i,rfl,hi,HT,HA⟩:=hrel;have hi0:(0:Int)<=(i:Int):=by omega
    have x5:=LV.o wr HT.o;have zx:=World.block_lt_of_cell? _ _ x5;by_cases hil:i<b.wraps.length
    .have EM:(i:Int)<(b.wraps.length:Int):=by omega
     obtain⟨bw,ow,hba,hbw,hcc⟩:=aG.at (f:=MC.cells) (fun _=>rfl) (OO.o wr HT.o).1 i hil;have HCM:=hdq (fun W (hW:Touch [] w2 W)=>(OO.o W hW).2 _ (List.getElem_mem hil));have HGC:=hdq (HG.o.2 _ (List.getElem_mem hil));have Fw:Hid (¬(∀t∈b.wraps[i].args,t.plain.Ok)->∀W,Touch [] w W->jQ v.hn v.on l b w (.returned (.bool false)) W):=fun h W hW=>DJ.o W hW (fun h2=>h (h2.2.2.2.1 _ (List.getElem_mem hil)));have Fz:Hid ((∀t∈b.wraps[i].args,t.plain.Ok)->∀q (hq:q<b.wraps.length),q<i+1->∀t∈b.wraps[q].args,t.plain.Ok):=fun h q hq hqi=>by
      by_cases hqe:q=i
      .subst hqe;exact h
      .exact HA.o q hq (by omega)
     obtain⟨cm,hcm⟩:∃cm,b.wraps[i]=cm:=⟨_,rfl⟩;have Uu:Hid (∀W,Touch [] w2 W->W.cell? ⟨bw,ow+i*2+1,none⟩=some (.slice cm.a cm.args.length cm.cap)):=fun W hW=>by
      obtain⟨bw',ow',DF,_,hcc'⟩:=aG.at (f:=MC.cells) (fun _=>rfl) (OO.o W hW).1 i hil;rw[hba]at DF;injection DF with DF
      injection DF with g1 g2
      subst g1 g2;rw[<-hcm];exact hcc' 1 (by omega)
     rw[hcm]at HCM Fw Fz HGC;have FD:=hdq hba;have hcl:=(HCM.o wr HT.o).1.1;rw[hba]at x5;clear hcc hcm hba hbw;go_wp2;have F6:=hdq HT.o;clear HT x5 zx;go_loopw [8] (fun p wr2=>∃j:Nat,p= .int .i64 (j:Int)/\j<=cm.args.length/\Hid (Touch [] w2 wr2)/\Hid (∀q (hq:q<cm.args.length),q<j->cm.args[q].plain.Ok)) (fun p _=>cm.args.length-(intOf p).toNat)
     case atStart=>exact⟨0,rfl,Nat.zero_le _,F6,fun q hq h0=>absurd h0 (Nat.not_lt_zero _)⟩
     case round=>
      obtain⟨j,rfl,hj,HT,HJ⟩:=hrel;clear F6;have hj0:(0:Int)<=(j:Int):=by omega
      have x5:=LV.o wr HT.o;have zx:=World.block_lt_of_cell? _ _ x5;have q1':=Uu.o wr HT.o;have zq:=World.block_lt_of_cell? _ _ q1';rw[FD.o]at x5;by_cases hjl:j<cm.args.length
      .have Cc:(j:Int)<(cm.args.length:Int):=by omega
       obtain⟨ba,oa,OY,hbb,k0,k1,k2⟩:=(HCM.o wr HT.o).1.2.cellAt hjl;have Gc:=hdq (sN cm.args[j] wr ((HCM.o wr HT.o).2 _ (List.getElem_mem hjl)) (HGC.o _ (List.getElem_mem hjl)));have EK:Hid (¬cm.args[j].plain.Ok->∀W,Touch [] w W->jQ v.hn v.on l b w (.returned (.bool false)) W):=fun h W hW=>Fw.o (fun h2=>h (h2 _ (List.getElem_mem hjl))) W hW;have EL:Hid (cm.args[j].plain.Ok->∀q (hq:q<cm.args.length),q<j+1->cm.args[q].plain.Ok):=fun h q hq hqj=>by
        by_cases hqe:q=j
        .subst hqe;exact h
        .exact HJ.o q hq (by omega)
       generalize cm.args[j]=u at k0 k1 k2 Gc EK EL;simp only[MT.sl]at k2;rw[eG]at Gc;rw[OY]at q1';clear OY;go_wp2_with fail
       refine Gc.o.mono ?_;rintro e w6 ⟨f,rfl,hf,ht⟩;have Fu:=hdq (HT.o.trans' ht);cases f with
       |true=>
        have HJ2:=hdq (EL.o (hf.1 rfl));clear ht HT hf EK EL x5 zx q1' zq k0 k1 k2 hbb Gc;go_wp2;go_roundw
        case rel=>exact⟨j+1,by go_num,by omega,Fu,HJ2⟩
        case measure=>simp[intOf];omega
       |false=>
        have HE:=hdq (EK.o (fun h=>by have :=hf.2 h;simp at this) w6 (HT0.o.trans' Fu.o));clear ht HT hf EK EL x5 zx q1' zq k0 k1 k2 hbb Gc;go_wp2;go_ret
        exact HE.o
      .have Cc:¬(j:Int)<(cm.args.length:Int):=by omega
       have HA2:=hdq (Fz.o (fun t ht=>by
        obtain⟨q,hq,rfl⟩:=List.getElem_of_mem ht;exact HJ.o q hq (by omega)))
       clear Fz HJ Fw;go_wp2;go_roundw
       case rel=>exact⟨i+1,by go_num,by omega,HT,HA2⟩
       case measure=>simp[intOf];omega
    .have EM:¬(i:Int)<(b.wraps.length:Int):=by omega
     have HAW:Hid (∀cm∈b.wraps,∀t∈cm.args,t.plain.Ok):=fun cm hm=>by
      obtain⟨q,hq,rfl⟩:=List.getElem_of_mem hm;exact HA.o q hq (by omega)
     have Fy:=hdq HT.o;clear HA OO;go_wp2;clear x5 zx LV;have HBY:=hdq (fun W (hW:Touch [] w2 W)=>(HB7.o W hW).2.2.2.2.2.2.1);go_loopw [9] (fun p wr2=>∃j:Nat,p= .int .i64 (j:Int)/\j<=b.aT.length/\Hid (Touch [] w2 wr2)/\Hid (∀q (hq:q<b.aT.length),q<j->b.aT[q]∈l)) (fun p _=>b.aT.length-(intOf p).toNat)
     case atStart=>exact⟨0,rfl,Nat.zero_le _,Fy,fun q hq h0=>absurd h0 (Nat.not_lt_zero _)⟩
     case round=>
      clear Fy HT hil EM hi hi0;obtain⟨j,rfl,hj,HT,HJ⟩:=hrel;have hj0:(0:Int)<=(j:Int):=by omega
      have x6:=HBY.o wr HT.o;have zx:=World.block_lt_of_cell? _ _ x6;by_cases hjl:j<b.aT.length
      .have Cc:(j:Int)<(b.aT.length:Int):=by omega
       obtain⟨bb,oo,hbb,zbb,hcc⟩:=aG.at (f:=fq) (fun _=>rfl) (Gb.o wr HT.o) j hjl;have EK:Hid (b.aT[j]∉l->∀W,Touch [] w W->jQ v.hn v.on l b w (.returned (.bool false)) W):=fun h W hW=>DJ.o W hW (fun h2=>h (h2.2.2.2.2 _ (List.getElem_mem hjl)));have EL:Hid (b.aT[j]∈l->∀q (hq:q<b.aT.length),q<j+1->b.aT[q]∈l):=fun h q hq hqj=>by
        by_cases hqe:q=j
        .subst hqe;exact h
        .exact HJ.o q hq (by omega)
       have q0:=hcc 0 Nat.one_pos;generalize b.aT[j]=k at EK EL q0;rw[Nat.mul_one,Nat.add_zero]at q0;have q0':wr.cell? ⟨bb,oo+j,none⟩=some (.int .i64 k):=q0;have JB:=hdq (HAM.o wr (HT0.o.trans' HT.o) k);rw[hbb]at x6;clear hcc q0 hbb;go_wp2_with fail
       refine JB.o.mono ?_;rintro e w6 ⟨f,rfl,hf,ht⟩;have Fu:=hdq (HT.o.trans' ht);cases f with
       |true=>
        have HJ2:=hdq (EL.o (hf.1 rfl));clear ht HT hf EK EL x6 zx q0' zbb JB HJ;go_wp2;go_roundw
        case rel=>exact⟨j+1,by go_num,by omega,Fu,HJ2⟩
        case measure=>simp[intOf];omega
       |false=>
        have HE:=hdq (EK.o (fun h=>by have :=hf.2 h;simp at this) w6 (HT0.o.trans' Fu.o));clear ht HT hf EK EL x6 zx q0' zbb JB HJ;go_wp2;go_ret
        exact HE.o
      .have Cc:¬(j:Int)<(b.aT.length:Int):=by omega
       have HAN:Hid (∀k∈b.aT,k∈l):=fun k hk=>by
        obtain⟨q,hq,rfl⟩:=List.getElem_of_mem hk;exact HJ.o q hq (by omega)
       have EP:Hid (∀W (f:Bool),Touch [] w W->(f=true↔dm v.hn v.on b)->jQ v.hn v.on l b w (.returned (.bool f)) W):=fun W f hW h=>HBO.o W f hW (h.trans ⟨fun hk=>⟨hk,H23.o.1,H23.o.2,HAW.o,HAN.o⟩,fun hb=>hb.1⟩);have FL:=hdq (HT0.o.trans' HT.o);obtain⟨x0,x1,x2,x3,x4,x5,_,⟨xf0,xf1,Gd,Gh,GK,Gn,Gr⟩,_,_,_⟩:=HB7.o wr HT.o;obtain⟨y0,y1,y2,y3,y4,y5,_,zy,_,_⟩:=HR6.o wr HT.o;clear HJ HAN HAW DJ HBO HAM HB HG Gb HBY HB7 HR6;by_cases hk5:b.kind=5
       .have k5:(b.kind==5)=true:=by simp[hk5]
        by_cases h1:0<=b.n
        .by_cases hz:b.n<(v.hn:Int)
         .skip
          go_wp2_with fail
          refine(FU.o _ FL.o).mono ?_;rintro e w6 ⟨f,rfl,hf,ht⟩;have HE:=hdq (EP.o w6 f (FL.o.trans' ht) (hf.trans (by simp[dm,hk5,h1,hz])));clear hf ht EP FU FO;go_wp2;go_ret
          exact HE.o
         .have dz:decide (b.n<(v.hn:Int))=false:=decide_eq_false hz
          have HE:=hdq (EP.o wr false FL.o (by simp[dm,hk5,h1,hz]));clear EP FU FO;go_wp2;go_ret
          exact HE.o
        .have d1:decide (0<=b.n)=false:=decide_eq_false h1
         have HE:=hdq (EP.o wr false FL.o (by simp[dm,hk5,h1]));clear EP FU FO;go_wp2;go_ret
         exact HE.o
       have k5:(b.kind==5)=false:=by simp[hk5]
       by_cases Hq:b.kind=6
       .have k6:(b.kind==6)=true:=by simp[Hq]
        by_cases h1:0<=b.n
        .by_cases hz:b.n<(v.hn:Int)
         .skip
          go_wp2_with fail
          refine(FO.o _ FL.o).mono ?_;rintro e w6 ⟨f,rfl,hf,ht⟩;have HE:=hdq (EP.o w6 f (FL.o.trans' ht) (hf.trans (by simp[dm,Hq,h1,hz])));clear hf ht EP FU FO;go_wp2;go_ret
          exact HE.o
         .have dz:decide (b.n<(v.hn:Int))=false:=decide_eq_false hz
          have HE:=hdq (EP.o wr false FL.o (by simp[dm,Hq,h1,hz]));clear EP FU FO;go_wp2;go_ret
          exact HE.o
        .have d1:decide (0<=b.n)=false:=decide_eq_false h1
         have HE:=hdq (EP.o wr false FL.o (by simp[dm,Hq,h1]));clear EP FU FO;go_wp2;go_ret
         exact HE.o
       have k6:(b.kind==6)=false:=by simp[Hq]
       by_cases hk7:b.kind=7
       .have k7:(b.kind==7)=true:=by simp[hk7]
        by_cases h1:b.n=0
        .have d1:(b.n==0)=true:=by simp[h1]
         go_wp2_with fail
         refine(FU.o _ FL.o).mono ?_;rintro e w6 ⟨f,rfl,hf,ht⟩;have HE:=hdq (EP.o w6 f (FL.o.trans' ht) (hf.trans (by simp[dm,hk7,h1])));clear hf ht EP FU FO;go_wp2;go_ret
         exact HE.o
        .have d1:(b.n==0)=false:=by simp[h1]
         have HE:=hdq (EP.o wr false FL.o (by simp[dm,hk7,h1]));clear EP FU FO;go_wp2;go_ret
         exact HE.o
       have k7:(b.kind==7)=false:=by simp[hk7]
       by_cases J6:b.kind=8
       .have k8:(b.kind==8)=true:=by simp[J6]
        by_cases h1:b.n=0
        .have d1:(b.n==0)=true:=by simp[h1]
         go_wp2_with fail
         refine(FO.o _ FL.o).mono ?_;rintro e w6 ⟨f,rfl,hf,ht⟩;have HE:=hdq (EP.o w6 f (FL.o.trans' ht) (hf.trans (by simp[dm,J6,h1])));clear hf ht EP FU FO;go_wp2;go_ret
         exact HE.o
        .have d1:(b.n==0)=false:=by simp[h1]
         have HE:=hdq (EP.o wr false FL.o (by simp[dm,J6,h1]));clear EP FU FO;go_wp2;go_ret
         exact HE.o
       have k8:(b.kind==8)=false:=by simp[J6]
       by_cases G7:b.kind=13
       .have k13:(b.kind==13)=true:=by simp[G7]
        by_cases h1:0<=b.n
        .by_cases hz:b.n<(v.on:Int)
         .skip
          go_wp2_with fail
          refine(FO.o _ FL.o).mono ?_;rintro e w6 ⟨f,rfl,hf,ht⟩;have HE:=hdq (EP.o w6 f (FL.o.trans' ht) (hf.trans (by simp[dm,G7,h1,hz])));clear hf ht EP FU FO;go_wp2;go_ret
          exact HE.o
         .have dz:decide (b.n<(v.on:Int))=false:=decide_eq_false hz
          have HE:=hdq (EP.o wr false FL.o (by simp[dm,G7,h1,hz]));clear EP FU FO;go_wp2;go_ret
          exact HE.o
        .have d1:decide (0<=b.n)=false:=decide_eq_false h1
         have HE:=hdq (EP.o wr false FL.o (by simp[dm,G7,h1]));clear EP FU FO;go_wp2;go_ret
         exact HE.o
       have k13:(b.kind==13)=false:=by simp[G7]
       have HE:=hdq (EP.o wr false FL.o (by simp[dm,hk5,Hq,hk7,J6,G7]));clear EP FU FO;go_wp2;go_ret
       exact HE.o
  .have d3:(32:Int)<(b.aT.length:Int):=by omega
   have HE:=hdq (DJ.o w2 HL2.o.BN (fun h=>h3 h.2.2.1));clear DJ HBO HB HG HAM FU FO;go_wp2;go_ret
   exact HE.o
 .have d2:(32:Int)<(b.wraps.length:Int):=by omega
  have HE:=hdq (DJ.o w2 HL2.o.BN (fun h=>h2 h.2.1));clear DJ HBO HB HG HAM FU FO;go_wp2;go_ret
  exact HE.o
def nM(n1 n2:Nat)(th:Int)(bases:List MB)(conds:List Int):Prop:=0<=th/\Ac n2 conds/\bases.length<=32/\∀b∈bases,eD n1 n2 conds b
def nX(n1 n2:Nat)(th:Int)(bases:List MB)(conds:List Int)(w:World):Ending->World->Prop:=aI (nM n1 n2 th bases conds) w
theorem zD(v:RV)(w:World)(th:Int)(ba:Option Addr)(bases:List MB)(bc:Nat)(ca:Option Addr)(conds:List Int)(cc:Nat)(h:iJ w ba bases ca conds)(hbig:∀b∈bases,b.Big):
  Calls prog 128 #[v.val,th,.slice ba bases.length bc,.slice ca conds.length cc] w (nX v.hn v.on th bases conds w):=by
 have HB:=hdq (fun W (hW:Touch [] w W)=>(show(aG W ba 7 bases.length (bases.flatMap MB.cells)/\∀b∈bases,b.Mem W)/\aG W ca 1 conds.length (conds.flatMap fq) from⟨⟨h.1.1.aW hW,fun b hb=>(h.1.2 b hb).aW hW⟩,h.2.aW hW⟩));have HG:=hdq hbig;have hdl:bases.length<=2000000/\conds.length<=2000000:=⟨h.1.1.1,h.2.1⟩;have DJ:Hid (∀W,Touch [] w W->¬nM v.hn v.on th bases conds->nX v.hn v.on th bases conds w (.returned (.bool false)) W):=fun W hW h=>⟨false,rfl,by simp[h],hW⟩;have Dj:Hid (∀W,Touch [] w W->nM v.hn v.on th bases conds->nX v.hn v.on th bases conds w (.returned (.bool true)) W):=fun W hW h=>⟨true,rfl,by simp[h],hW⟩;clear h hbig;simp only[RV.val];go_enter func128,ntmps128
 go_upto_region 1 with fail
 refine ay ?_;intro w2 hw2;have HL2:=hdq ((BD.nil' w).DN hw2);simp only[nAq]at HL2;generalize hb4:w.heap.size=b4 at HL2|-;clear hw2 hb4;by_cases h1:0<=th
 .have d1:decide (th<0)=false:=decide_eq_false (by omega)
  by_cases h2:bases.length<=32
  .have d2:decide ((32:Int)<(bases.length:Int))=false:=decide_eq_false (by omega)
   have H12:Hid (0<=th/\bases.length<=32):=⟨h1,h2⟩;go_wp2;have HR6:=hdq (fun W (hW:Touch [] w2 W)=>(HL2.o.touch hW).c6 0 rfl);have HT0:=hdq HL2.o.BN;clear HL2 d1 d2 h1;go_loopw [9] (fun p wr=>∃i:Nat,p= .int .i64 (i:Int)/\i<=conds.length/\Hid (Touch [] w2 wr)/\Hid ((∀t (h:t<conds.length),t<i->0<=conds[t]/\conds[t]<(v.on:Int))/\∀s t (hs:s<conds.length) (ht:t<conds.length),s<t->t<i->conds[s]<conds[t])) (fun p _=>conds.length-(intOf p).toNat)
   case atStart=>exact⟨0,rfl,Nat.zero_le _,Touch.refl _ _,fun t h h0=>absurd h0 (Nat.not_lt_zero _),fun s t hs ht hst h0=>absurd h0 (Nat.not_lt_zero _)⟩
   case round=>
    obtain⟨i,rfl,hi,HT,HA⟩:=hrel;have hi0:(0:Int)<=(i:Int):=by omega
    by_cases hil:i<conds.length
    .have EM:(i:Int)<(conds.length:Int):=by omega
     obtain⟨b,o,hba,zb,hc⟩:=aG.at (f:=fq) (fun _=>rfl) (HB.o wr (HT0.o.trans' HT.o)).2 i hil;obtain⟨y0,y1,y2,y3,y4,y5,_,zy,_,_⟩:=HR6.o wr HT.o;have hm:=hc 0 Nat.one_pos;have LX:=hdq (fun n=>(HT0.o.trans' HT.o).trans' ((Touch.refl [] wr).drewN n));have HTe:=hdq (fun n=>HT.o.trans' ((Touch.refl [] wr).drewN n));have FR:Hid (conds[i]<0\/(v.on:Int)<=conds[i]->∀n,nX v.hn v.on th bases conds w (.returned (.bool false)) (wr.drewN n)):=fun h n=>DJ.o _ (LX.o n) (fun h2=>by have :=h2.2.1.1 i hil;omega);have Gy:Hid (∀(hi1:i-1<conds.length),0<i->conds[i]<=conds[i-1]->∀n,nX v.hn v.on th bases conds w (.returned (.bool false)) (wr.drewN n)):=fun hi1 h0 h n=>DJ.o _ (LX.o n) (fun h2=>by have :=h2.2.1.2 (i-1) i hi1 hil (by omega);omega);have HST:Hid ((0<=conds[i]/\conds[i]<(v.on:Int))->(∀(hi1:i-1<conds.length),0<i->conds[i-1]<conds[i])->(∀t (h:t<conds.length),t<i+1->0<=conds[t]/\conds[t]<(v.on:Int))/\∀s t (hs:s<conds.length) (ht:t<conds.length),s<t->t<i+1->conds[s]<conds[t]):=fun g1 g2=>by
      refine⟨fun t ht hti=>?_,fun s t hs ht hst hti=>?_⟩
      .by_cases hte:t=i
       .subst hte;exact g1
       .exact HA.o.1 t ht (by omega)
      .by_cases hte:t=i
       .subst hte
        have g3:=g2 (by omega) (by omega);by_cases hse:s=t-1
        .subst hse;exact g3
        .have :=HA.o.2 s (t-1) hs (by omega) (by omega) (by omega);omega
       .exact HA.o.2 s t hs ht hst (by omega)
     obtain⟨y,hy⟩:∃y,conds[i]=y:=⟨_,rfl⟩;rw[hy,Nat.mul_one,Nat.add_zero]at hm;have hm2:wr.cell? ⟨b,o+i,none⟩=some (.int .i64 y):=hm;rw[hy]at FR Gy HST;have FD:=hdq hba;by_cases g1:y<0
     .have e1:decide (y<0)=true:=decide_eq_true g1
      have he:=FR.o (.inl g1);(try rw[hba]at he)
      have HE:=hdq he;rw[hba];clear hc hy hm hba he FR Gy HST LX HTe HA g1;go_wp2_with fail
      go_quiet (fail)
      go_wp2;go_ret
      exact HE.o _
     .have e1:decide (y<0)=false:=decide_eq_false g1
      by_cases g2:(v.on:Int)<=y
      .have e2:decide ((v.on:Int)<=y)=true:=decide_eq_true g2
       have he:=FR.o (.inr g2);(try rw[hba]at he)
       have HE:=hdq he;rw[hba];clear hc hy hm hba he FR Gy HST LX HTe HA g1;go_wp2_with fail
       go_quiet (fail)
       go_wp2;go_ret
       exact HE.o _
      .have e2:decide ((v.on:Int)<=y)=false:=decide_eq_false g2
       by_cases g3:i=0
       .have e3:decide (0<(i:Int))=false:=decide_eq_false (by omega)
        have e3':decide (0<i)=false:=decide_eq_false (by omega);have HA2:=hdq (HST.o ⟨by omega,by omega⟩ (fun h h0=>by omega));rw[hba];clear hc hy hm hba FR Gy HST LX HA g1 g2 g3;go_wp2_with fail
        go_quiet (fail)
        go_wp2;go_roundw
        case rel=>exact⟨i+1,by go_num,by omega,HTe.o _,HA2⟩
        case measure=>simp[intOf];omega
       .have e3:decide (0<(i:Int))=true:=decide_eq_true (by omega)
        have e3':decide (0<i)=true:=decide_eq_true (by omega);have hi1:i-1<conds.length:=by omega
        obtain⟨b',o',DF,zb',hc'⟩:=aG.at (f:=fq) (fun _=>rfl) (HB.o wr (HT0.o.trans' HT.o)).2 (i-1) hi1;rw[hba]at DF;injection DF with DF
        injection DF with q1 q2
        subst q1 q2;have hz:=hc' 0 Nat.one_pos;obtain⟨z,hzz⟩:∃z,conds[i-1]=z:=⟨_,rfl⟩;rw[hzz,Nat.mul_one,Nat.add_zero]at hz;have hz2:wr.cell? ⟨b,o+(i-1),none⟩=some (.int .i64 z):=hz;have N8:=hdq (fun h=>Gy.o hi1 (by omega) h);rw[hzz]at N8;have HST':Hid ((0<=y/\y<(v.on:Int))->z<y->_):=fun a1 a2=>HST.o a1 (fun _ _=>by rw[hzz];exact a2);have s1:IntKind.i64.wrap ((i:Int)-1)=(i:Int)-1:=IntWalk.i64_in _ (by omega);have s2:(0:Int)<=(i:Int)-1:=by omega
        have s3:(i:Int)-1<(conds.length:Int):=by omega
        have s4:((i:Int)-1).toNat=i-1:=by omega
        by_cases g4:y<=z
        .have e4:decide (y<=z)=true:=decide_eq_true g4
         have he:=N8.o g4;(try rw[hba]at he)
         have HE:=hdq he;rw[hba];clear hc hc' hy hm hba he FR Gy N8 HST HST' LX HTe HA g1 g2 hz hzz hi1;go_wp2_with fail
         go_quiet (fail)
         go_wp2;go_ret
         exact HE.o _
        .have e4:decide (y<=z)=false:=decide_eq_false g4
         have HA2:=hdq (HST'.o ⟨by omega,by omega⟩ (by omega));rw[hba];clear hc hc' hy hm hba FR Gy N8 HST HST' LX HA g1 g2 g4 hz hzz hi1;go_wp2_with fail
         go_quiet (fail)
         clear s1 s2 s3 s4;go_wp2;go_roundw
         case rel=>exact⟨i+1,by go_num,by omega,HTe.o _,HA2⟩
         case measure=>simp[intOf];omega
    .have EM:¬(i:Int)<(conds.length:Int):=by omega
     have F7:Hid (Ac v.on conds):=⟨fun t h=>HA.o.1 t h (by omega),fun s t hs ht hst=>HA.o.2 s t hs ht hst (by omega)⟩;have Fy:=hdq HT.o;clear HA;go_wp2;go_loopw [10] (fun p wr2=>∃j:Nat,p= .int .i64 (j:Int)/\j<=bases.length/\Hid (Touch [] w2 wr2)/\Hid (∀q (hq:q<bases.length),q<j->eD v.hn v.on conds bases[q])) (fun p _=>bases.length-(intOf p).toNat)
     case atStart=>exact⟨0,rfl,Nat.zero_le _,Fy,fun q hq h0=>absurd h0 (Nat.not_lt_zero _)⟩
     case round=>
      clear Fy HT hil EM hi hi0;obtain⟨j,rfl,hj,HT,HJ⟩:=hrel;have hj0:(0:Int)<=(j:Int):=by omega
      by_cases hjl:j<bases.length
      .have Cc:(j:Int)<(bases.length:Int):=by omega
       have hargs:=HB.o wr (HT0.o.trans' HT.o);obtain⟨bb,oo,hbb,zbb,hcc⟩:=aG.at (f:=MB.cells) (fun _=>rfl) hargs.1.1 j hjl;have EI:=hdq (fun W (hW:Touch [] w2 W)=>(HB.o W (HT0.o.trans' hW)).1.2 _ (List.getElem_mem hjl));have HGG:=hdq (HG.o _ (List.getElem_mem hjl));have EK:Hid (¬eD v.hn v.on conds bases[j]->∀W,Touch [] w W->nX v.hn v.on th bases conds w (.returned (.bool false)) W):=fun h W hW=>DJ.o W hW (fun h2=>h (h2.2.2.2 _ (List.getElem_mem hjl)));have EL:Hid (eD v.hn v.on conds bases[j]->∀q (hq:q<bases.length),q<j+1->eD v.hn v.on conds bases[q]):=fun h q hq hqj=>by
        by_cases hqe:q=j
        .subst hqe;exact h
        .exact HJ.o q hq (by omega)
       obtain⟨m,hm⟩:∃m,bases[j]=m:=⟨_,rfl⟩;have k0:wr.cell? ⟨bb,oo+j*7,none⟩=some (.int .i64 m.kind):=(hcc 0 (by omega)).trans (by rw[hm];rfl);have k1:wr.cell? ⟨bb,oo+j*7+1,none⟩=some (.int .i64 m.n):=(hcc 1 (by omega)).trans (by rw[hm];rfl);have k2:wr.cell? ⟨bb,oo+j*7+2,none⟩=some (.int .i64 m.v.kind):=(hcc 2 (by omega)).trans (by rw[hm];rfl);have k3:wr.cell? ⟨bb,oo+j*7+3,none⟩=some (.int .i64 m.v.num):=(hcc 3 (by omega)).trans (by rw[hm];rfl);have k4:wr.cell? ⟨bb,oo+j*7+4,none⟩=some (.slice m.v.addr m.v.parts.length m.v.cap):=(hcc 4 (by omega)).trans (by rw[hm];rfl);have k5:wr.cell? ⟨bb,oo+j*7+5,none⟩=some (.slice m.wa m.wraps.length m.wc):=(hcc 5 (by omega)).trans (by rw[hm];rfl);have k6:wr.cell? ⟨bb,oo+j*7+6,none⟩=some (.slice m.na m.aT.length m.nc):=(hcc 6 (by omega)).trans (by rw[hm];rfl);rw[hm]at EI HGG EK EL;have HBS:=hdq (fun W (hW:Touch [] wr W)=>base16 v m W (EI.o W (HT.o.trans' hW)) HGG.o ca cc conds (HB.o W ((HT0.o.trans' HT.o).trans' hW)).2);simp only[RV.val,MB.val]at HBS;obtain⟨y0,y1,y2,y3,y4,y5,_,zy,_,_⟩:=HR6.o wr HT.o;have FD:=hdq hbb;rw[hbb];clear hcc hm hbb hargs;have BZ:=hdq (Touch.refl [] wr).drew;go_wp2_with fail
       refine hrq (S:=fun w'=>w'.cell? ⟨b4,0,none⟩=some (.slice v.ca v.cn v.cc)/\w'.cell? ⟨b4,1,none⟩=some (.int .i64 v.most)/\w'.cell? ⟨b4,2,none⟩=some (.slice v.la v.ln v.lc)/\w'.cell? ⟨b4,3,none⟩=some (.slice v.ha v.hn v.hc)/\w'.cell? ⟨b4,4,none⟩=some (.slice v.oa v.on v.oc)/\w'.cell? ⟨b4,5,none⟩=some (.slice v.sa v.sn v.sc)/\w'.cell? ⟨bb,oo+j*7,none⟩=some (.int .i64 m.kind)/\w'.cell? ⟨bb,oo+j*7+1,none⟩=some (.int .i64 m.n)/\w'.cell? ⟨bb,oo+j*7+2,none⟩=some (.int .i64 m.v.kind)/\w'.cell? ⟨bb,oo+j*7+3,none⟩=some (.int .i64 m.v.num)/\w'.cell? ⟨bb,oo+j*7+4,none⟩=some (.slice m.v.addr m.v.parts.length m.v.cap)/\w'.cell? ⟨bb,oo+j*7+5,none⟩=some (.slice m.wa m.wraps.length m.wc)/\w'.cell? ⟨bb,oo+j*7+6,none⟩=some (.slice m.na m.aT.length m.nc)) fun hHeld=>?_;refine tkq 0 61 ?_;refine tkq 1 62 ?_;refine tkq 2 63 ?_;refine tkq 3 64 ?_;refine tkq 4 65 ?_;refine tkq 5 66 ?_;refine rdq 6 rfl fun K hK=>?_;go_simp;refine(HBS.o _ BZ.o).mono ?_;rintro en w6 ⟨f,rfl,hf,ht⟩;have ht2:=BZ.o.trans' ht;have Fu:=hdq (HT.o.trans' ht2);obtain⟨y0,y1,y2,y3,y4,y5,_,zy,_,_⟩:=HR6.o w6 Fu.o;have k0:=ht2.cellOf k0;have k1:=ht2.cellOf k1;have k2:=ht2.cellOf k2;have k3:=ht2.cellOf k3;have k4:=ht2.cellOf k4;have k5:=ht2.cellOf k5;have k6:=ht2.cellOf k6;clear ht ht2 HBS BZ hHeld;cases f with
       |true=>
        have HJ2:=hdq (EL.o (hf.1 rfl));clear hf EL EK HJ;go_simp;refine kpq hK.o fun hHeld=>?_;clear hK K;refine tkq 7 68 ?_;refine dnq ?_;clear hHeld;go_wp2;go_roundw
        case rel=>exact⟨j+1,by go_num,by omega,Fu,HJ2⟩
        case measure=>simp[intOf];omega
       |false=>
        have he:=EK.o (fun h=>by have :=hf.2 h;simp at this) w6 (HT0.o.trans' Fu.o);(try rw[FD.o]at he)
        have HE:=hdq he;clear he hf EL EK HJ;go_simp;refine kpq hK.o fun hHeld=>?_;clear hK K;refine tkq 7 68 ?_;refine dnq ?_;clear hHeld;go_wp2;go_ret
        exact HE.o
      .have Cc:¬(j:Int)<(bases.length:Int):=by omega
       have HE:=hdq (Dj.o wr (HT0.o.trans' HT.o) ⟨H12.o.1,F7.o,H12.o.2,fun b hb=>by
        obtain⟨q,hq,rfl⟩:=List.getElem_of_mem hb;exact HJ.o q hq (by omega)⟩)
       go_wp2;go_ret
       exact HE.o
  .have d2:(32:Int)<(bases.length:Int):=by omega
   have HE:=hdq (DJ.o w2 HL2.o.BN (fun h=>h2 h.2.2.1));clear DJ Dj HB HG;go_wp2;go_ret
   exact HE.o
 .have d1:decide (th<0)=true:=decide_eq_true (by omega)
  have HE:=hdq (DJ.o w2 HL2.o.BN (fun h=>h1 h.1));clear DJ Dj HB HG;go_wp2;go_ret
  exact HE.o
theorem Z5(most:Nat)(w:World)(h1:1<=most)(h2:most<=65536):Calls prog 122 #[(most:Int)] w fun e w'=>e= .returned (.tuple #[bI (.slice none 0 0) most (.slice none 0 0),()])/\Touch [] w w':=by
 have h1':¬(most:Int)<1:=by omega
 have h2':¬65536<(most:Int):=by omega
 have HT:=hdq ((Touch.refl [] w).alloc (.cells #[True,(most:Int),True] 42));unfold bI;go_enter func122,ntmps122
 go_wp2;refine bodyPost_ret (v:= .tuple #[.agg #[True,(most:Int),True],()]) (by simp[results,results122,go_sem]) rfl ⟨rfl,HT.o⟩
theorem Oo(most:Nat)(w:World)(h1:1<=most)(h2:most<=65536):Calls prog 41 #[(most:Int)] w fun e w'=>e= .returned (.tuple #[.agg #[True,(most:Int),True,True,True,True],()])/\Touch [] w w':=by
 have HC:Hid (∀W,Calls prog 122 #[(most:Int)] W fun e w'=>e= .returned (.tuple #[.agg #[True,(most:Int),True],()])/\Touch [] W w'):=fun W=>Z5 most _ h1 h2;have hbw:∀W,(Instr.build 47 #[(0,.agg #[True,(most:Int),True])]).run prog W= .ok (.agg #[True,(most:Int),True,True,True,True]) W:=fun W=>run_build W 47 _ _ (by kernel_rfl);go_enter func41,ntmps41
 go_wp2_with fail
 refine ah ?_;intro w1 hw1;have BB:=hdq ((BD.nil' w).DN hw1);simp only[nAq]at BB;generalize hb0:w.heap.size=b0 at BB|-;clear hw1 hb0;refine(HC.o _).mono ?_;rintro e w2 ⟨rfl,ht⟩;have HL2:=hdq (BB.o.touch ht);clear ht BB HC;go_upto_region 2 with fail
 refine ay ?_;intro w3 hw3;have BF:=hdq (HL2.o.DN hw3);simp only[nAq,cAq]at BF;generalize hb2:w2.heap.size=b2 at BF|-;clear hw3 hb2 HL2;obtain⟨p0,p1,p2,p3,p4,p5,⟨f0,f1,f2,f3,f4,f5⟩,z1,_,_⟩:=BF.o.c6 0 rfl;obtain⟨q0,q1,q2,_,_,_,z2,_,_⟩:=BF.o.c3 1 rfl;have n12:=BF.o.ne 0 1 rfl rfl (by decide);have n21:=Ne.symm n12;have BH:=hdq ((((((BF.o.set 0 rfl 0 (.slice none 0 0)).set 0 rfl 1 (.int .i64 (most:Int))).set 0 rfl 2 (.slice none 0 0)).set 0 rfl 3 (.slice none 0 0)).set 0 rfl 4 (.slice none 0 0)).set 0 rfl 5 (.slice none 0 0));simp only[sSq,sZq,sAq]at BH;clear BF;go_wp2;refine aP ?_;intro w5 DC;have Ca:=hdq (BH.o.toW DC);clear DC BH p0 p1 p2 p3 p4 p5 f0 f1 f2 f3 f4 f5 z1 q0 q1 q2 z2 n12 n21;obtain⟨p0,p1,p2,p3,p4,p5,_,_,_,_⟩:=Ca.o.c6 0 rfl;refine bodyPost_ret (v:= .tuple #[.agg #[True,(most:Int),True,True,True,True],()]) (by simp[results,results41,go_sem,p0,p1,p2,p3,p4,p5]) rfl ?_;exact⟨rfl,Ca.o.BN⟩
theorem xJ(v:RV)(n:Nat)(w:World)(hm:0<=v.most/\v.most<=65536)(hc:(v.cn:Int)<=v.most)(hf:v.most-(v.cn:Int)<(n:Int)):Calls prog 218 #[.agg #[.slice v.ca v.cn v.cc,v.most,.slice v.la v.ln v.lc],(n:Int)] w fun e w'=>e= .returned (.tuple #[.agg #[.slice v.ca v.cn v.cc,v.most,.slice v.la v.ln v.lc],(),(6:Int)])/\Touch [] w w':=by
 have hn:¬(n:Int)<0:=by omega
 go_enter func218,ntmps218
 go_wp2;refine bodyPost_ret (v:= .tuple #[.agg #[.slice v.ca v.cn v.cc,v.most,.slice v.la v.ln v.lc],(),(6:Int)]) (by simp[results,results218,go_sem]) rfl ?_;exact⟨rfl,((Touch.refl [] w).alloc _).alloc _⟩
theorem Wj(v:RV)(w:World)(hm:0<=v.most/\v.most<=65536)(hc:(v.cn:Int)<=v.most)(hf:v.most-(v.cn:Int)<1):Calls prog 217 #[.agg #[.slice v.ca v.cn v.cc,v.most,.slice v.la v.ln v.lc]] w fun e w'=>e= .returned (.tuple #[.agg #[.slice v.ca v.cn v.cc,v.most,.slice v.la v.ln v.lc],(),(6:Int)])/\Touch [] w w':=by
 have HC:Hid (∀W,Calls prog 218 #[.agg #[.slice v.ca v.cn v.cc,v.most,.slice v.la v.ln v.lc],(1:Int)] W fun e w'=>e= .returned (.tuple #[.agg #[.slice v.ca v.cn v.cc,v.most,.slice v.la v.ln v.lc],(),(6:Int)])/\Touch [] W w'):=fun W=>xJ v 1 W hm hc hf;go_enter func217,ntmps217
 go_wp2_with fail
 refine ah ?_;intro w1 hw1;have BB:=hdq ((BD.nil' w).DZ hw1);simp only[nAq,cAq]at BB;generalize hb1:w.heap.size+1=b1 at BB|-;clear hw1 hb1;refine(HC.o _).mono ?_;rintro e w2 ⟨rfl,ht⟩;have HL2:=hdq (BB.o.touch ht);clear ht BB HC;obtain⟨p0,p1,p2,f0,f1,f2,z1,z11,z12⟩:=HL2.o.c3 1 rfl;go_wp2;refine aP ?_;intro w3 hw3;have BF:=hdq ((((HL2.o.set 1 rfl 0 (.slice v.ca v.cn v.cc)).set 1 rfl 1 (.int .i64 v.most)).set 1 rfl 2 (.slice v.la v.ln v.lc)).toW hw3);simp only[sSq,sZq,sAq,cAq,nAq]at BF;clear hw3 HL2 p0 p1 p2 f0 f1 f2;obtain⟨p0,p1,p2,_,_,_,_,_,_⟩:=BF.o.c3 1 rfl;refine bodyPost_ret (v:= .tuple #[.agg #[.slice v.ca v.cn v.cc,v.most,.slice v.la v.ln v.lc],(),(6:Int)]) (by simp[results,results217,go_sem,p0,p1,p2]) rfl ?_;exact⟨rfl,BF.o.BN⟩
theorem Vy(v:RV)(w:World)(hm:0<=v.most/\v.most<=65536)(hc:(v.cn:Int)<=v.most)(hf:v.most-(v.cn:Int)<1):Calls prog 129 #[.agg #[.slice v.ca v.cn v.cc,v.most,.slice v.la v.ln v.lc]] w fun e w'=>e= .returned (.tuple #[.agg #[.slice v.ca v.cn v.cc,v.most,.slice v.la v.ln v.lc],(),(6:Int)])/\Touch [] w w':=by
 have HC:Hid (∀W,Calls prog 218 #[.agg #[.slice v.ca v.cn v.cc,v.most,.slice v.la v.ln v.lc],(1:Int)] W fun e w'=>e= .returned (.tuple #[.agg #[.slice v.ca v.cn v.cc,v.most,.slice v.la v.ln v.lc],(),(6:Int)])/\Touch [] W w'):=fun W=>xJ v 1 W hm hc hf;go_enter func129,ntmps129
 go_wp2_with fail
 refine ah ?_;intro w1 hw1;have BB:=hdq ((BD.nil' w).DZ hw1);simp only[nAq,cAq]at BB;generalize hb1:w.heap.size+1=b1 at BB|-;clear hw1 hb1;refine(HC.o _).mono ?_;rintro e w2 ⟨rfl,ht⟩;have HL2:=hdq (BB.o.touch ht);clear ht BB HC;obtain⟨p0,p1,p2,f0,f1,f2,z1,z11,z12⟩:=HL2.o.c3 1 rfl;go_wp2;refine aP ?_;intro w3 hw3;have BF:=hdq ((((HL2.o.set 1 rfl 0 (.slice v.ca v.cn v.cc)).set 1 rfl 1 (.int .i64 v.most)).set 1 rfl 2 (.slice v.la v.ln v.lc)).toW hw3);simp only[sSq,sZq,sAq,cAq,nAq]at BF;clear hw3 HL2 p0 p1 p2 f0 f1 f2;obtain⟨p0,p1,p2,_,_,_,_,_,_⟩:=BF.o.c3 1 rfl;refine bodyPost_ret (v:= .tuple #[.agg #[.slice v.ca v.cn v.cc,v.most,.slice v.la v.ln v.lc],(),(6:Int)]) (by simp[results,results129,go_sem,p0,p1,p2]) rfl ?_;exact⟨rfl,BF.o.BN⟩
theorem Vw(v:RV)(w:World)(hm:0<=v.most/\v.most<=65536)(hc:(v.cn:Int)<=v.most)(hf:v.most-(v.cn:Int)<1):Calls prog 126 #[.agg #[.slice v.ca v.cn v.cc,v.most,.slice v.la v.ln v.lc]] w fun e w'=>e= .returned (.tuple #[.agg #[.slice v.ca v.cn v.cc,v.most,.slice v.la v.ln v.lc],.agg #[(),True,True],(6:Int)])/\Touch [] w w':=by
 have HC:Hid (∀W,Calls prog 217 #[.agg #[.slice v.ca v.cn v.cc,v.most,.slice v.la v.ln v.lc]] W fun e w'=>e= .returned (.tuple #[.agg #[.slice v.ca v.cn v.cc,v.most,.slice v.la v.ln v.lc],(),(6:Int)])/\Touch [] W w'):=fun W=>Wj v W hm hc hf;have hbe:∀W,(Instr.build 185 #[(0,.int .i64 0)]).run prog W= .ok (.agg #[(),True,True]) W:=fun W=>run_build W 185 _ _ (by kernel_rfl);go_enter func126,ntmps126
 go_wp2_with fail
 refine ah ?_;intro w1 hw1;have BB:=hdq ((BD.nil' w).UX hw1);simp only[nAq,cAq]at BB;generalize hb2:w.heap.size+1+1=b2 at BB|-;generalize hb1:w.heap.size+1=b1 at BB|-;clear hw1 hb2 hb1;refine(HC.o _).mono ?_;rintro e w2 ⟨rfl,ht⟩;have HL2:=hdq (BB.o.touch ht);clear ht BB HC;obtain⟨p0,p1,p2,f0,f1,f2,z1,z11,z12⟩:=HL2.o.c3 1 rfl;obtain⟨q0,q1,q2,g0,g1,g2,z2,z21,z22⟩:=HL2.o.c3 2 rfl;have m1:=HL2.o.ne 1 2 rfl rfl (by decide);have m2:=Ne.symm m1;go_wp2;refine dY ?_;intro w3 hw3;have BF:=hdq (((((((HL2.o.set 1 rfl 0 (.slice v.ca v.cn v.cc)).set 1 rfl 1 (.int .i64 v.most)).set 1 rfl 2 (.slice v.la v.ln v.lc)).set 2 rfl 0 (.int .i64 0)).set 2 rfl 1 (.slice none 0 0)).set 2 rfl 2 (.slice none 0 0)).DN hw3);simp only[sSq,sZq,sAq,cAq,nAq]at BF;clear hw3 HL2 p0 p1 p2 f0 f1 f2 q0 q1 q2 g0 g1 g2;obtain⟨p0,p1,p2,_,_,_,_,_,_⟩:=BF.o.c3 1 rfl;obtain⟨q0,q1,q2,_,_,_,_,_,_⟩:=BF.o.c3 2 rfl;refine bodyPost_ret (v:= .tuple #[.agg #[.slice v.ca v.cn v.cc,v.most,.slice v.la v.ln v.lc],.agg #[(),True,True],(6:Int)]) (by simp[results,results126,go_sem,p0,p1,p2,q0,q1,q2]) rfl ?_;exact⟨rfl,BF.o.BN⟩
theorem xR(v:RV)(w:World)(hm:0<=v.most/\v.most<=65536)(hc:(v.cn:Int)<=v.most)(hf:v.most-(v.cn:Int)<2):Calls prog 127 #[.agg #[.slice v.ca v.cn v.cc,v.most,.slice v.la v.ln v.lc]] w fun e w'=>e= .returned (.tuple #[.agg #[.slice v.ca v.cn v.cc,v.most,.slice v.la v.ln v.lc],.agg #[(),True],(6:Int)])/\Touch [] w w':=by
 have HC:Hid (∀W,Calls prog 218 #[.agg #[.slice v.ca v.cn v.cc,v.most,.slice v.la v.ln v.lc],(2:Int)] W fun e w'=>e= .returned (.tuple #[.agg #[.slice v.ca v.cn v.cc,v.most,.slice v.la v.ln v.lc],(),(6:Int)])/\Touch [] W w'):=fun W=>xJ v 2 W hm hc hf;have hbe:∀W,(Instr.build 38 #[(0,.int .i64 0)]).run prog W= .ok (.agg #[(),True]) W:=fun W=>run_build W 38 _ _ (by kernel_rfl);go_enter func127,ntmps127
 go_wp2_with fail
 refine ah ?_;intro w1 hw1;have BB:=hdq ((BD.nil' w).UX hw1);simp only[nAq,cAq]at BB;generalize hb2:w.heap.size+1+1=b2 at BB|-;generalize hb1:w.heap.size+1=b1 at BB|-;clear hw1 hb2 hb1;refine(HC.o _).mono ?_;rintro e w2 ⟨rfl,ht⟩;have HL2:=hdq (BB.o.touch ht);clear ht BB HC;obtain⟨p0,p1,p2,f0,f1,f2,z1,z11,z12⟩:=HL2.o.c3 1 rfl;obtain⟨q0,q1,g0,g1,z2,z21,z22⟩:=HL2.o.c2 2 rfl;have m1:=HL2.o.ne 1 2 rfl rfl (by decide);have m2:=Ne.symm m1;go_wp2;refine dY ?_;intro w3 hw3;have BF:=hdq ((((((HL2.o.set 1 rfl 0 (.slice v.ca v.cn v.cc)).set 1 rfl 1 (.int .i64 v.most)).set 1 rfl 2 (.slice v.la v.ln v.lc)).set 2 rfl 0 (.int .i64 0)).set 2 rfl 1 (.slice none 0 0)).DN hw3);simp only[sSq,sZq,sAq,cAq,nAq]at BF;clear hw3 HL2 p0 p1 p2 f0 f1 f2 q0 q1 g0 g1;obtain⟨p0,p1,p2,_,_,_,_,_,_⟩:=BF.o.c3 1 rfl;obtain⟨q0,q1,_,_,_,_,_⟩:=BF.o.c2 2 rfl;refine bodyPost_ret (v:= .tuple #[.agg #[.slice v.ca v.cn v.cc,v.most,.slice v.la v.ln v.lc],.agg #[(),True],(6:Int)]) (by simp[results,results127,go_sem,p0,p1,p2,q0,q1]) rfl ?_;exact⟨rfl,BF.o.BN⟩
end Go.Proofs.YtegejdlglonflaaGreatDoor
