/-
  Texts of WorldCopies, laid together by program.
-/
import Derived.Test.YtddnnapoaonmjaaGreatDoorWZ26
namespace Go.Proofs.YtddnnapoaonmjaaGreatDoor
open Go.RowKit Go.Shelf Go.Proofs.Tryz
set_option maxRecDepth 100000
set_option maxHeartbeats 8000000
set_option linter.unusedVariables false
set_option linter.unusedSimpArgs false
section
open Go.ChangeShapes Go.WideShapes Go.Deep Go.RowKit
theorem Lu{α:Type}{l:List α}(h:l.length=2):∃x0 x1,l=[x0,x1]:=by
 match l,h with
 |[x0,x1],_=>exact⟨x0,x1,rfl⟩
theorem listN9{α:Type}{l:List α}(h:l.length=9):∃x0 x1 x2 x3 x4 x5 x6 x7 x8,l=[x0,x1,x2,x3,x4,x5,x6,x7,x8]:=by
 match l,h with
 |[x0,x1,x2,x3,x4,x5,x6,x7,x8],_=>exact⟨x0,x1,x2,x3,x4,x5,x6,x7,x8,rfl⟩
theorem NK{α:Type}{l:List α}(h:l.length=17):∃x0 x1 x2 x3 x4 x5 x6 x7 x8 x9 x10 ES I9 Li Gg Gw GN,l=[x0,x1,x2,x3,x4,x5,x6,x7,x8,x9,x10,ES,I9,Li,Gg,Gw,GN]:=by
 match l,h with
 |[x0,x1,x2,x3,x4,x5,x6,x7,x8,x9,x10,ES,I9,Li,Gg,Gw,GN],_=>exact⟨x0,x1,x2,x3,x4,x5,x6,x7,x8,x9,x10,ES,I9,Li,Gg,Gw,GN,rfl⟩
theorem listN5{α:Type}{l:List α}(h:l.length=5):∃x0 x1 x2 x3 x4,l=[x0,x1,x2,x3,x4]:=by
 match l,h with
 |[x0,x1,x2,x3,x4],_=>exact⟨x0,x1,x2,x3,x4,rfl⟩
theorem listN7{α:Type}{l:List α}(h:l.length=7):∃x0 x1 x2 x3 x4 x5 x6,l=[x0,x1,x2,x3,x4,x5,x6]:=by
 match l,h with
 |[x0,x1,x2,x3,x4,x5,x6],_=>exact⟨x0,x1,x2,x3,x4,x5,x6,rfl⟩
theorem Lg{H:Type}(d:DataW H):1<=Rows.uptoBulk d:=by
 cases d with
 |lit l=>cases l<;>simp[Rows.uptoBulk]
 |nil=>simp[Rows.uptoBulk]
 |ptr d=>simp[Rows.uptoBulk]
 |slice a b=>simp[Rows.uptoBulk]
 |agg a=>simp[Rows.uptoBulk]
 |iface t d=>simp[Rows.uptoBulk]
 |map e=>simp[Rows.uptoBulk]
 |held h=>simp[Rows.uptoBulk]
theorem Kv{H:Type}(l:List (DataW H)):l.length<=Rows.uptoBulkAll l:=by
 induction l with
 |nil=>simp
 |cons d r ih=>simp only[Rows.uptoBulkAll,List.length_cons];have :=Lg d;omega
section
variable {H:Type} {enc:TypeId×Value->H} {w:World} {base:Nat} {spare:Nat->Bool} {held:Bool}
theorem uf:prog.cellsOf 41=1:=by kernel_rfl
theorem vw:prog.cellsOf 108=1:=by kernel_rfl
theorem mZ:prog.cellsOf 49=1:=by kernel_rfl
theorem wo:prog.cellsOf 48=1:=by kernel_rfl
theorem qM:prog.cellsOf 189=2:=by kernel_rfl
theorem qb:prog.cellsOf 110=7:=by kernel_rfl
theorem oF:prog.cellsOf 51=17:=by kernel_rfl
theorem open_row{α:Type}(f:α->List Value)(size:Nat)(hsz:0<size)(hf:∀a,(f a).length=size)(Q:α->Nat->Prop)(hQ:∀a m n,m<=n->Q a m->Q a n){ts te:TypeId}(und:prog.underlying ts=some (.slice te))(hce:prog.cellsOf te=size)(hone:∀(fuel:Nat) (cs:List Value) (d:DataW H) (p:List MemPlace),Rows.uptoBulk d<=1048576->DataW.trod enc prog w base spare held fuel te cs=some (d,p)->∃x:α,cs=f x/\Q x (Rows.uptoBulk d)){fuel:Nat}{c:Value}{d:DataW H}{p:List MemPlace}(hbk:Rows.uptoBulk d<=1048576)(h:DataW.trod enc prog w base spare held fuel ts [c]=some (d,p)):
  ∃(a:Option Addr) (cap:Nat) (l:List α),c= .slice a l.length cap/\aG w a size l.length (l.flatMap f)/\∀x∈l,Q x (Rows.uptoBulk d):=by
 rcases open_slice und h with ⟨hcs,hx2⟩|⟨a,len,cap,m,n',D,Pl,hcs,hb,hlc,hm,hmm,hx2,hi⟩
 .injection hcs with hcs _
  subst hcs;exact⟨none,0,[],rfl,gX _ _ _ _,by simp⟩
 .injection hcs with hcs _
  subst hcs;have hlm:len<=m:=by rw[hmm];split<;>omega
  injection hx2 with hx2 _
  subst hx2;simp only[Rows.uptoBulk]at hbk|-;have hlb:len<=Rows.uptoBulkAll ((List.range len).map D):=by have :=Kv ((List.range len).map D);simpa using this
  have hbi:∀i,i<len->Rows.uptoBulk (D i)<=Rows.uptoBulkAll ((List.range len).map D):=fun i hil=>vB (List.mem_map.2 ⟨i,List.mem_range.2 hil,rfl⟩);obtain⟨l,hll,hp⟩:=kT (p:=fun i (t:α)=>(∀j,j<size->w.cell? ((a.add (i*size)).add j)=(f t)[j]?)/\Q t (Rows.uptoBulk (D i))) len (fun i hil=>by
   obtain⟨cs',hc,ht'⟩:=hi i (by omega);rw[hce]at hc;obtain⟨_,hcl,hat⟩:=World.cells?_some hc;obtain⟨t,rfl,ht1⟩:=hone _ _ _ _ (by have :=hbi i hil;omega) ht';exact⟨t,hat,ht1⟩)
  subst hll;refine⟨some a,cap,l,rfl,⟨by omega,fun i hil=>?_⟩,fun x hx=>?_⟩
  .obtain⟨hat,_⟩:=hp i hil
   obtain⟨b,o,sp⟩:=a;have hs0:∀i (hi:i<l.length),∃u,(f l[i])[0]? =some u:=fun i hi=>⟨(f l[i])[0]'(by rw[hf];exact hsz),List.getElem?_eq_getElem _⟩;have hsp:sp=none:=by
    obtain⟨aaH,_⟩:=hp 0 (by omega);have h00:=aaH 0 hsz;rw[add_add']at h00;obtain⟨u,hu⟩:=hs0 0 (by omega);have h01:w.cell? ((⟨b,o,sp⟩:Addr).add 0)=some u:=by simp only[Nat.zero_mul,Nat.add_zero]at h00;exact h00.trans hu
    simpa[Addr.add]using World.cell?_spot h01
   subst hsp;have hc:∀j,j<size->w.cell? ⟨b,o+i*size+j,none⟩=(f l[i])[j]? :=fun j hj=>by
    have :=hat j hj;rw[add_add',Addr.add_lit,<-Nat.add_assoc]at this;exact this
   obtain⟨u,hu⟩:=hs0 i hil;refine⟨b,o,rfl,World.block_lt_of_cell? w _ (u:=u) ((hc 0 hsz).trans hu),fun j hj=>?_⟩;rw[hc j hj,rT f size hf l i hil j hj]
  .obtain⟨i,hil,rfl⟩:=List.mem_iff_getElem.1 hx
   exact hQ _ _ _ (by have :=hbi i hil;omega) (hp i hil).2
def yI(w:World)(t:MT)(n:Nat):Prop:=t.In w/\t.nodes<=n
def sU(w:World)(c:MC)(n:Nat):Prop:=(c.args.length<=2000000/\MT.dK w c.a c.args)/\∀t∈c.args,yI w t n
def su(w:World)(b:MB)(n:Nat):Prop:=b.Mem w/\b.v.nodes<=n/\∀c∈b.wraps,∀t∈c.args,t.nodes<=n
def uK(w:World)(x:BO)(n:Nat):Prop:=x.Mem w/\x.e.v.nodes<=n/\x.v.nodes<=n/\∀b∈x.bases,b.v.nodes<=n/\∀c∈b.wraps,∀t∈c.args,t.nodes<=n
theorem uK.big{w:World}{x:BO}{n:Nat}(h:uK w x n)(hn:n<=1048576):x.Mem w/\x.Big:=⟨h.1,Nat.le_trans h.2.1 hn,Nat.le_trans h.2.2.1 hn,fun b hb=>⟨Nat.le_trans (h.2.2.2 b hb).1 hn,fun c hc t ht=>Nat.le_trans ((h.2.2.2 b hb).2 c hc t ht) hn⟩⟩
theorem yI.mono(w:World)(t:MT)(m n:Nat)(h:m<=n)(hq:yI w t m):yI w t n:=⟨hq.1,Nat.le_trans hq.2 h⟩
theorem sU.mono(w:World)(c:MC)(m n:Nat)(h:m<=n)(hq:sU w c m):sU w c n:=⟨hq.1,fun t ht=>(hq.2 t ht).mono _ _ _ _ h⟩
theorem su.mono(w:World)(b:MB)(m n:Nat)(h:m<=n)(hq:su w b m):su w b n:=⟨hq.1,Nat.le_trans hq.2.1 h,fun c hc t ht=>Nat.le_trans (hq.2.2 c hc t ht) h⟩
theorem uK.mono(w:World)(x:BO)(m n:Nat)(h:m<=n)(hq:uK w x m):uK w x n:=⟨hq.1,Nat.le_trans hq.2.1 h,Nat.le_trans hq.2.2.1 h,fun b hb=>⟨Nat.le_trans (hq.2.2.2 b hb).1 h,fun c hc t ht=>Nat.le_trans ((hq.2.2.2 b hb).2 c hc t ht) h⟩⟩
theorem sD(fuel:Nat)(cs:List Value)(d:DataW H)(p:List MemPlace)(_hbk:Rows.uptoBulk d<=1048576)(h:DataW.trod enc prog w base spare held fuel 3 cs=some (d,p)):∃x:Int,cs=fq x/\True:=by
 obtain⟨z0,hz0,hx0,g0⟩:=DataW.trod_int underlying3 h;exact⟨z0,hz0,trivial⟩
theorem Bg(fuel:Nat)(cs:List Value)(d:DataW H)(p:List MemPlace)(_hbk:Rows.uptoBulk d<=1048576)(h:DataW.trod enc prog w base spare held fuel 45 cs=some (d,p)):∃x:MT,cs=x.cells/\yI w x (Rows.uptoBulk d):=gP _ d (Nat.le_refl _) _ _ _ h
theorem o7(fuel:Nat)(cs:List Value)(d:DataW H)(p:List MemPlace)(hbk:Rows.uptoBulk d<=1048576)(h:DataW.trod enc prog w base spare held fuel 189 cs=some (d,p)):∃x:MC,cs=x.cells/\sU w x (Rows.uptoBulk d):=by
 obtain⟨xs,n,_,hx,hl,hlen,hf⟩:=DataW.trod_struct underlying189 h;injection hx with hx _
 subst hx;rw[qM]at hl;obtain⟨c0,c1,rfl⟩:=Lu hl;obtain⟨x0,x1,rfl⟩:=Lu hlen;have f0:DataW.trod enc prog w base spare held n 3 (List.take (prog.cellsOf 3) (List.drop 0 [c0,c1]))=some x0:=hf 0 _ rfl;have f1:DataW.trod enc prog w base spare held n 43 (List.take (prog.cellsOf 43) (List.drop 1 [c0,c1]))=some x1:=hf 1 _ rfl;rw[iV]at f0;rw[qi]at f1;simp only[List.drop_zero,List.drop_succ_cons,List.take_succ_cons,List.take_zero]at f0 f1;obtain⟨z0,hz0,hx0,g0⟩:=DataW.trod_int underlying3 f0;injection hz0 with hz0 _
 subst hz0;obtain⟨x1,p1⟩:=x1;simp only[List.map_cons,List.map_nil,Rows.uptoBulk,Rows.uptoBulkAll]at hbk|-;obtain⟨a,cap,l,rfl,hl1,hl2⟩:=open_row (w:=w) MT.cells 3 (by omega) (fun _=>rfl) (yI w) (yI.mono w) underlying43 iO Bg (by omega) f1;refine⟨⟨z0,a,cap,l⟩,rfl,⟨hl1.1,MT.uJ hl1⟩,fun t ht=>(hl2 t ht).mono _ _ _ _ (by omega)⟩
theorem oU(fuel:Nat)(cs:List Value)(d:DataW H)(p:List MemPlace)(hbk:Rows.uptoBulk d<=1048576)(h:DataW.trod enc prog w base spare held fuel 110 cs=some (d,p)):∃x:MB,cs=x.cells/\su w x (Rows.uptoBulk d):=by
 obtain⟨xs,n,_,hx,hl,hlen,hf⟩:=DataW.trod_struct underlying110 h;injection hx with hx _
 subst hx;rw[qb]at hl;obtain⟨c0,c1,c2,c3,c4,c5,c6,rfl⟩:=listN7 hl;obtain⟨x0,x1,x2,x3,x4,rfl⟩:=listN5 hlen;have f0:DataW.trod enc prog w base spare held n 42 (List.take (prog.cellsOf 42) (List.drop 0 [c0,c1,c2,c3,c4,c5,c6]))=some x0:=hf 0 _ rfl;have f1:DataW.trod enc prog w base spare held n 3 (List.take (prog.cellsOf 3) (List.drop 1 [c0,c1,c2,c3,c4,c5,c6]))=some x1:=hf 1 _ rfl;have f2:DataW.trod enc prog w base spare held n 45 (List.take (prog.cellsOf 45) (List.drop 2 [c0,c1,c2,c3,c4,c5,c6]))=some x2:=hf 2 _ rfl;have f3:DataW.trod enc prog w base spare held n 108 (List.take (prog.cellsOf 108) (List.drop 5 [c0,c1,c2,c3,c4,c5,c6]))=some x3:=hf 3 _ rfl;have f4:DataW.trod enc prog w base spare held n 49 (List.take (prog.cellsOf 49) (List.drop 6 [c0,c1,c2,c3,c4,c5,c6]))=some x4:=hf 4 _ rfl;rw[qD]at f0;rw[iV]at f1;rw[iO]at f2;rw[vw]at f3;rw[mZ]at f4;simp only[List.drop_zero,List.drop_succ_cons,List.take_succ_cons,List.take_zero]at f0 f1 f2 f3 f4;obtain⟨z0,hz0,hx0,g0⟩:=DataW.trod_int underlying42 f0;injection hz0 with hz0 _
 subst hz0;obtain⟨z1,hz1,hx1,g1⟩:=DataW.trod_int underlying3 f1;injection hz1 with hz1 _
 subst hz1;obtain⟨x2,p2⟩:=x2;obtain⟨x3,p3⟩:=x3;obtain⟨x4,p4⟩:=x4;simp only[List.map_cons,List.map_nil,Rows.uptoBulk,Rows.uptoBulkAll]at hbk|-;obtain⟨t,ht,hin,hno⟩:=gP _ x2 (Nat.le_refl _) _ _ _ f2;have ht':c2= .int .i64 t.kind/\c3= .int .i64 t.num/\c4=t.sl:=by simpa[MT.cells]using ht
 obtain⟨rfl,rfl,rfl⟩:=ht';obtain⟨wa,wc,wl,rfl,hw1,hw2⟩:=open_row (w:=w) MC.cells 2 (by omega) (fun _=>rfl) (sU w) (sU.mono w) underlying108 qM o7 (by omega) f3;obtain⟨na,nc,nl,rfl,hn1,_⟩:=open_row (w:=w) fq 1 (by omega) (fun _=>rfl) (fun _ _=>True) (fun _ _ _ _ _=>trivial) underlying49 iV sD (by omega) f4;refine⟨⟨z0,z1,t,wa,wc,wl,na,nc,nl⟩,rfl,⟨hin,⟨hw1,fun c hc=>⟨(hw2 c hc).1,fun u hu=>((hw2 c hc).2 u hu).1⟩⟩,hn1⟩,?_,fun c hc u hu=>Nat.le_trans ((hw2 c hc).2 u hu).2 (by omega)⟩;show t.nodes<=_
 omega
theorem nQ(fuel:Nat)(cs:List Value)(d:DataW H)(p:List MemPlace)(hbk:Rows.uptoBulk d<=1048576)(h:DataW.trod enc prog w base spare held fuel 51 cs=some (d,p)):∃x:BO,cs=x.cells/\uK w x (Rows.uptoBulk d):=by
 obtain⟨xs,n,_,hx,hl,hlen,hf⟩:=DataW.trod_struct underlying51 h;injection hx with hx _
 subst hx;rw[oF]at hl;obtain⟨c0,c1,c2,c3,c4,c5,c6,c7,c8,c9,c10,c11,c12,c13,c14,c15,c16,rfl⟩:=NK hl;obtain⟨x0,x1,x2,x3,x4,x5,x6,x7,x8,rfl⟩:=listN9 hlen;have f0:DataW.trod enc prog w base spare held n 3 (List.take (prog.cellsOf 3) (List.drop 0 [c0,c1,c2,c3,c4,c5,c6,c7,c8,c9,c10,c11,c12,c13,c14,c15,c16]))=some x0:=hf 0 _ rfl;have f1:DataW.trod enc prog w base spare held n 3 (List.take (prog.cellsOf 3) (List.drop 1 [c0,c1,c2,c3,c4,c5,c6,c7,c8,c9,c10,c11,c12,c13,c14,c15,c16]))=some x1:=hf 1 _ rfl;have f2:DataW.trod enc prog w base spare held n 3 (List.take (prog.cellsOf 3) (List.drop 2 [c0,c1,c2,c3,c4,c5,c6,c7,c8,c9,c10,c11,c12,c13,c14,c15,c16]))=some x2:=hf 2 _ rfl;have f3:DataW.trod enc prog w base spare held n 3 (List.take (prog.cellsOf 3) (List.drop 3 [c0,c1,c2,c3,c4,c5,c6,c7,c8,c9,c10,c11,c12,c13,c14,c15,c16]))=some x3:=hf 3 _ rfl;have f4:DataW.trod enc prog w base spare held n 41 (List.take (prog.cellsOf 41) (List.drop 4 [c0,c1,c2,c3,c4,c5,c6,c7,c8,c9,c10,c11,c12,c13,c14,c15,c16]))=some x4:=hf 4 _ rfl;have f5:DataW.trod enc prog w base spare held n 47 (List.take (prog.cellsOf 47) (List.drop 5 [c0,c1,c2,c3,c4,c5,c6,c7,c8,c9,c10,c11,c12,c13,c14,c15,c16]))=some x5:=hf 5 _ rfl;have f6:DataW.trod enc prog w base spare held n 48 (List.take (prog.cellsOf 48) (List.drop 12 [c0,c1,c2,c3,c4,c5,c6,c7,c8,c9,c10,c11,c12,c13,c14,c15,c16]))=some x6:=hf 6 _ rfl;have f7:DataW.trod enc prog w base spare held n 49 (List.take (prog.cellsOf 49) (List.drop 13 [c0,c1,c2,c3,c4,c5,c6,c7,c8,c9,c10,c11,c12,c13,c14,c15,c16]))=some x7:=hf 7 _ rfl;have f8:DataW.trod enc prog w base spare held n 45 (List.take (prog.cellsOf 45) (List.drop 14 [c0,c1,c2,c3,c4,c5,c6,c7,c8,c9,c10,c11,c12,c13,c14,c15,c16]))=some x8:=hf 8 _ rfl;rw[iV]at f0 f1 f2 f3;rw[uf]at f4;rw[sO]at f5;rw[wo]at f6;rw[mZ]at f7;rw[iO]at f8;simp only[List.drop_zero,List.drop_succ_cons,List.take_succ_cons,List.take_zero]at f0 f1 f2 f3 f4 f5 f6 f7 f8;obtain⟨z0,hz0,hx0,g0⟩:=DataW.trod_int underlying3 f0;injection hz0 with hz0 _
 subst hz0;obtain⟨z1,hz1,hx1,g1⟩:=DataW.trod_int underlying3 f1;injection hz1 with hz1 _
 subst hz1;obtain⟨z2,hz2,hx2,g2⟩:=DataW.trod_int underlying3 f2;injection hz2 with hz2 _
 subst hz2;obtain⟨z3,hz3,hx3,g3⟩:=DataW.trod_int underlying3 f3;injection hz3 with hz3 _
 subst hz3;obtain⟨z4,hz4,hx4,g4⟩:=DataW.trod_int underlying41 f4;injection hz4 with hz4 _
 subst hz4;obtain⟨x5,p5⟩:=x5;obtain⟨x6,p6⟩:=x6;obtain⟨x7,p7⟩:=x7;obtain⟨x8,p8⟩:=x8;simp only[List.map_cons,List.map_nil,Rows.uptoBulk,Rows.uptoBulkAll]at hbk|-;obtain⟨e,he,hein,heno,_⟩:=qm _ _ _ _ f5;obtain⟨t,ht,hin,hno⟩:=gP _ x8 (Nat.le_refl _) _ _ _ f8;obtain⟨rfl,rfl,rfl⟩:c14= .int .i64 t.kind/\c15= .int .i64 t.num/\c16=t.sl:=by simpa[MT.cells]using ht
 obtain⟨rfl,rfl,rfl,rfl,rfl,rfl,rfl⟩:c5= .int .i64 e.sync/\c6= .int .i64 e.thread/\c7= .int .i64 e.branch/\c8= .int .i64 e.flag/\c9= .int .i64 e.v.kind/\c10= .int .i64 e.v.num/\c11= .slice e.v.addr e.v.parts.length e.v.cap:=by simpa[ME.cells,MT.cells]using he
 obtain⟨ba,bc,bl,rfl,hb1,hb2⟩:=open_row (w:=w) MB.cells 7 (by omega) (fun _=>rfl) (su w) (su.mono w) underlying48 qb oU (by omega) f6;obtain⟨na,nc,nl,rfl,hn1,_⟩:=open_row (w:=w) fq 1 (by omega) (fun _=>rfl) (fun _ _=>True) (fun _ _ _ _ _=>trivial) underlying49 iV sD (by omega) f7;refine⟨⟨z0,z1,z2,z3,z4,e,ba,bc,bl,na,nc,nl,t⟩,rfl,⟨hein,hin,⟨hb1,fun b hb=>(hb2 b hb).1⟩,hn1⟩,?_,?_,fun b hb=>⟨Nat.le_trans (hb2 b hb).2.1 (by omega),fun c hc u hu=>Nat.le_trans ((hb2 b hb).2.2 c hc u hu) (by omega)⟩⟩
 .show e.v.nodes<=_
  omega
 .show t.nodes<=_
  omega
theorem oW{r:Reach}{b0:Nat}{v:Value}{d:DataW H}{p:List MemPlace}(hv:Value.okWide prog w r b0 22 v)(h:DataW.Trod enc prog w base spare held 22 v d p)(hbk:Rows.uptoBulk d<=1048576):∃(a:Option Addr) (cap:Nat) (l:List BO),v= .slice a l.length cap/\aG w a 17 l.length (l.flatMap BO.cells)/\∀x∈l,x.Mem w/\x.Big:=by
 obtain⟨a,len,cap,rfl⟩:=okWide_slice underlying22 hv;obtain⟨fuel,hf⟩:=h;obtain⟨a',cap',l,h1,h2,h3⟩:=open_row (w:=w) BO.cells 17 (by omega) (fun _=>rfl) (uK w) (uK.mono w) underlying22 oF nQ hbk (c:= .slice a len cap) hf;exact⟨a',cap',l,h1,h2,fun x hx=>(h3 x hx).big hbk⟩
end
end
section
variable {w W:World}
theorem Gi.lt(ho:Gi w W){b:Nat}(hb:b<w.heap.size):b<W.heap.size:=by
 have :=ho b hb;rw[Array.getElem?_eq_getElem hb]at this;exact(Array.getElem?_eq_some_iff.1 this).1
theorem Gi.cell(ho:Gi w W){b j:Nat}(hb:b<w.heap.size):W.cell? ⟨b,j,none⟩=w.cell? ⟨b,j,none⟩:=by simp[World.cell?,ho b hb]
theorem aG.old{a:Option Addr}{size n:Nat}{cs:List Value}(h:aG w a size n cs)(ho:Gi w W):aG W a size n cs:=by
 refine⟨h.1,fun i hi=>?_⟩;obtain⟨b,o,ha,hb,hc⟩:=h.2 i hi;exact⟨b,o,ha,ho.lt hb,fun j hj=>(ho.cell hb).trans (hc j hj)⟩
theorem MT.dK.old{a:Option Addr}{l:List MT}(h:MT.dK w a l)(ho:Gi w W):MT.dK W a l:=fun i hi=>by
 obtain⟨b,o,ha,hb,hc⟩:=h i hi;exact⟨b,o,ha,ho.lt hb,fun j hj=>(ho.cell hb).trans (hc j hj)⟩
theorem MT.In.qO{t:MT}(h:t.In w)(ho:Gi w W):t.In W:=h.keep (fun k hk=>ho k (h.lt k hk))
theorem MB.Mem.old{b:MB}(h:b.Mem w)(ho:Gi w W):b.Mem W:=
 ⟨h.1.qO ho,⟨h.2.1.1.old ho,fun c hm=>⟨⟨(h.2.1.2 c hm).1.1,(h.2.1.2 c hm).1.2.old ho⟩,fun t ZV=>((h.2.1.2 c hm).2 t ZV).qO ho⟩⟩,h.2.2.old ho⟩
theorem BO.Mem.old{x:BO}(h:x.Mem w)(ho:Gi w W):x.Mem W:=
 ⟨h.1.qO ho,h.2.1.qO ho,⟨h.2.2.1.1.old ho,fun b hb=>(h.2.2.1.2 b hb).old ho⟩,h.2.2.2.old ho⟩
theorem bJ.qO(h:bJ w)(ho:Gi w W):bJ W:=by
 have hlt:0<w.heap.size:=World.block_lt_of_cell? _ _ h.1;exact⟨(ho.cell hlt).trans h.1,(ho.cell hlt).trans h.2⟩
end
theorem yT{T:List Nat}{w0 w:World}{x:WS}{ms:List MS}{P:World->Prop}{r:List ai}(n:Nat)(hn:n<ms.length)(h:BD T w0 w ((x.fJ P).ts++r))(hms:x.sys=ms.map MS.raw)(hin:∀W,P W->∀m∈ms,m.In W):
  Calls prog 15 #[x.wb,(n:Int)] w fun e w'=>∃(s:MS) (P2:World->Prop),e= .returned (.tuple #[s.raw.val,true])/\s.plain=ms[n].plain/\(∀W,P2 W->P W/\s.In W)/\BD T w0 w' ((x.fJ P2).ts++r):=by
 obtain⟨T',hF,hb⟩:=h.aN;refine(aaK T' w (x.fJ P) ms (n:Int) hF hms hin).mono ?_;rintro e w' ⟨v,er,x',rfl,hS,hL⟩;rcases hS with ⟨hno,_⟩|⟨k,hk,s,hkn,rfl,rfl,hpl,rfl⟩
 .exact absurd ⟨by omega,by omega⟩ hno
 .obtain rfl:k=n:=by omega
  exact⟨s,fun W=>P W/\s.In W,rfl,hpl,fun W hW=>hW,hb _ _ hL⟩
end Go.Proofs.YtddnnapoaonmjaaGreatDoor
