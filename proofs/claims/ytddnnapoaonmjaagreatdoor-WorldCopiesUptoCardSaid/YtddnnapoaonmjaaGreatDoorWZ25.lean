/-
  Texts of WorldCopies, laid together by program.
-/
import Derived.Test.YtddnnapoaonmjaaGreatDoorWZ21
import Derived.Test.YtddnnapoaonmjaaGreatDoorWZ24
namespace Go.Proofs.YtddnnapoaonmjaaGreatDoor
open Go.RowKit Go.Shelf Go.Proofs.Tryz
set_option maxRecDepth 100000
set_option maxHeartbeats 8000000
set_option linter.unusedVariables false
set_option linter.unusedSimpArgs false
theorem tO(p:Option Addr)(a1:Option Addr)(n1 c1:Nat)(a2:Option Addr)(n2 c2:Nat)(a3:Option Addr)(n3 c3:Nat)(w:World):(Instr.build 86 #[(0,.agg #[.pointer p]),(1,.slice a1 n1 c1),(2,.slice a2 n2 c2),(3,.slice a3 n3 c3)]).run prog w= .ok (.agg #[.pointer p,.slice a1 n1 c1,.slice a2 n2 c2,.slice a3 n3 c3]) w:=run_build w 86 _ _ (by kernel_rfl)
section
variable {T:List Nat} {w0 w w':World} {x:WS} {r0:List ai}
theorem BD.rX{h0 h1 s:ai}{A Y B:List ai}(h:BD T w0 w ([h0,h1,s]++A++Y++B)):∃T',BD T' w w (Y++[s])/\∀w' Y' s' N,BD T' w w' (Y'++[s']++N)->BD T w0 w' ([h0,h1,s']++A++Y'++B++N):=by
 have e1:BD T w0 w (Y++[s]++(A++B++[h0,h1])):=by
  have g1:BD T w0 w ([]++([h0,h1,s]++A)++(Y++B)):=by simpa using h
  have g2:=g1.aB;have g3:BD T w0 w (Y++(B++[h0,h1])++([s]++A)):=by simpa using g2
  have g4:=g3.aB;have g5:BD T w0 w ((Y++[s]++A)++(B++[h0,h1])):=by simpa using g4
  simpa using g5
 obtain⟨T',hF,hb⟩:=e1.aN;refine⟨T',hF,fun w' Y' s' N hL=>?_⟩;have k1:BD T w0 w' ((Y'++[s'])++N++(A++B++[h0,h1])):=hb w' (Y'++[s']++N) hL;have k2:=k1.aB;have k3:BD T w0 w' (Y'++([s']++A)++(B++[h0,h1]++N)):=by simpa using k2
 have k4:=k3.aB;have k5:BD T w0 w' ([]++(Y'++B)++([h0,h1]++N++([s']++A))):=by simpa using k4
 have k6:=k5.aB;have k7:BD T w0 w' ([h0,h1]++N++([s']++A++Y'++B)):=by simpa using k6
 have k8:=k7.aB;simpa using k8
def WS.AC(x:WS)(n:Nat):List ai:=[aS 118 1 (.slice x.a1 x.BI.length x.c1) x.BI.length (bP x.BI),aS 122 1 (.slice x.a2 x.cos.length x.c2) x.cos.length (bK x.cos),aS 61 11 (.slice x.a3 x.sys.length x.c3) x.sys.length (aU x.sys)]++(x.BI.take n).flatMap Ce.ts
theorem WS.vL(x:WS)(n:Nat)(hn:n<x.BI.length)(r0:List ai):x.ts++r0=[x.h0,arena x.ga x.s,aA x.P]++x.AC n++x.BI[n].ts++((x.BI.drop (n+1)).flatMap Ce.ts++x.cos.flatMap Ch.ts++r0):=by
 have e:x.BI.flatMap Ce.ts=(x.BI.take n).flatMap Ce.ts++(x.BI[n].ts++(x.BI.drop (n+1)).flatMap Ce.ts):=by
  conv=>lhs;rw[<-List.take_append_drop n x.BI,List.drop_eq_getElem_cons hn]
  rw[List.flatMap_append,List.flatMap_cons]
 unfold WS.ts;rw[e];simp[WS.head,WS.h0,WS.AC]
def Ce.pl(y:Ce):Int×List PE×List PE:=(y.cell,y.es1.map ME.plain,y.es2.map ME.plain)
def Ch.pl(y:Ch):Int×Int×List PE:=(y.a,y.f,y.es.map ME.plain)
def Ce.made(y:Ce):List ai:=y.ts++[aA fun W=>bD W y.es1/\bD W y.es2]
def Ch.made(y:Ch):List ai:=y.ts++[aA fun W=>bD W y.es]
theorem mh{es ys:List ME}(h:ys.map ME.plain=es.map ME.plain)(hn:∀e∈es,e.v.nodes<=256):∀y∈ys,y.v.nodes<=256:=by
 intro y hy;have :y.plain∈es.map ME.plain:=h▸List.mem_map.2 ⟨y,hy,rfl⟩;obtain⟨e,he,hp⟩:=List.mem_map.1 this;rw[qI hp];exact hn e he
theorem BD.Og(h:BD T w0 w (x.ts++r0))(hS:∀W,x.P W->bJ W)(hv:∀W,x.P W->x.fD W)(n:Nat)(hn:n<x.BI.length)(hq:x.BI[n].es1.length<=4096/\x.BI[n].es2.length<=4096):
  Calls prog 52 #[x.BI[n].val] w fun en w'=>∃y:Ce,en= .returned y.val/\y.pl=x.BI[n].pl/\BD T w0 w' (x.ts++(r0++y.made)):=by
 have hp:=hv w (h.still 2 rfl);have hx:=hp.1 _ (List.getElem_mem hn);rw[x.vL n hn r0]at h;obtain⟨T',hF,hb⟩:=h.rX;refine(Ow T' w x.BI[n].c x.BI[n].cell x.BI[n].M x.BI[n].q1 x.BI[n].q2 x.BI[n].es1 x.BI[n].es2 x.P hF hS (fun W hW=>(hv W hW).1 _ (List.getElem_mem hn)) hq.1 hq.2).mono ?_;rintro en w' ⟨d,N,p1,p2,EB,FC,rfl,hp1,hp2,hL⟩;refine⟨⟨d,x.BI[n].cell,N,p1,p2,EB,FC⟩,rfl,by simp[Ce.pl,hp1,hp2],?_⟩;have h1:=hL.sel [0,1,2,3,4,5,6,7,9,8,10] (l':=x.BI[n].ts++[aA x.P]++((Ce.mk d x.BI[n].cell N p1 p2 EB FC).ts++[bS (EB.map ME.v),bS (FC.map ME.v)])) rfl (by decide);have n1:=mh hp1 (fun e he=>(hx.1 e he).2);have n2:=mh hp2 (fun e he=>(hx.2 e he).2);have h2:=h1.jh 9 (t:=bS (EB.map ME.v)) (P:=fun W=>bD W EB) rfl (fun W f hf y hy=>⟨hf.2 _ (List.mem_map.2 ⟨y,hy,rfl⟩),n1 y hy⟩);have h3:BD T' w w' ((x.BI[n].ts++[aA x.P]++((Ce.mk d x.BI[n].cell N p1 p2 EB FC).ts++[aA fun W=>bD W EB]))++[bS (FC.map ME.v)]):=by simpa[Ce.ts,gB]using h2
 have h4:=h3.settle 9 (P:=fun W=>bD W EB) (Q:=fun W=>bD W EB/\bD W FC) rfl (fun W f hW hf=>⟨hW,fun y hy=>⟨hf.2 _ (List.mem_map.2 ⟨y,hy,rfl⟩),n2 y hy⟩⟩);have h5:=hb w' x.BI[n].ts (aA x.P) ((Ce.mk d x.BI[n].cell N p1 p2 EB FC).made) (by simpa[Ce.ts,gB,Ce.made]using h4);rw[<-List.append_assoc x.ts,x.vL n hn r0];exact h5
theorem BD.OC(h:BD T w0 w (x.ts++r0))(hv:∀W,x.P W->x.fD W)(n:Nat)(hn:n<x.cos.length)(hq:x.cos[n].es.length<=4096):
  Calls prog 54 #[x.cos[n].val] w fun en w'=>∃y:Ch,en= .returned y.val/\y.pl=x.cos[n].pl/\BD T w0 w' (x.ts++(r0++y.made)):=by
 have hp:=hv w (h.still 2 rfl);have hx:=hp.2 _ (List.getElem_mem hn);rw[x.co_split n hn r0]at h;obtain⟨T',hF,hb⟩:=h.rX;refine(Nf T' w x.cos[n].c x.cos[n].a x.cos[n].f x.cos[n].q x.cos[n].es x.P hF (fun W hW e he=>((hv W hW).2 _ (List.getElem_mem hn) e he).1) (fun e he=>(hx e he).2) hq).mono ?_;rintro en w' ⟨d,p,ys,rfl,hp1,hL⟩;refine⟨⟨d,x.cos[n].a,x.cos[n].f,p,ys⟩,rfl,by simp[Ch.pl,hp1],?_⟩;have n1:=mh hp1 (fun e he=>(hx e he).2);have h2:=hL.jh 5 (t:=bS (ys.map ME.v)) (P:=fun W=>bD W ys) rfl (fun W f hf y hy=>⟨hf.2 _ (List.mem_map.2 ⟨y,hy,rfl⟩),n1 y hy⟩);have h5:=hb w' x.cos[n].ts (aA x.P) ((Ch.mk d x.cos[n].a x.cos[n].f p ys).made) (by simpa[mQ,Ch.ts,Ch.made]using h2);rw[<-List.append_assoc x.ts,x.co_split n hn r0];exact h5
theorem BD.perm{l l':List ai}(hp:l.Perm l'):∀pre,BD T w0 w (pre++l)->BD T w0 w (pre++l'):=by
 induction hp with
 |nil=>exact fun pre h=>h
 |cons t _ ih=>
  intro pre h;have :=ih (pre++[t]) (by simpa using h);simpa using this
 |swap t u l=>
  intro pre h;have h1:BD T w0 w (pre++[u]++(t::l)):=by simpa using h
  have h2:=h1.aB;have h3:BD T w0 w ((pre++[t])++l++[u]):=by simpa using h2
  have h4:=h3.aB;simpa using h4
 |trans _ _ ih1 ih2=>exact fun pre h=>ih2 pre (ih1 pre h)
theorem qy{α:Type}(f g:α->List ai)(l:List α):(l.flatMap fun a=>f a++g a).Perm (l.flatMap f++l.flatMap g):=by
 induction l with
 |nil=>simp
 |cons a l ih=>
  simp only[List.flatMap_cons,List.append_assoc];refine List.Perm.append_left _ ?_;refine(List.Perm.append_left _ ih).trans ?_;rw[<-List.append_assoc,<-List.append_assoc];exact List.Perm.append_right _ List.perm_append_comm
theorem oz(l:List Ce):l.flatMap Ce.cells=bP l:=by
 induction l with
 |nil=>rfl
 |cons a l ih=>simp[List.flatMap_cons,ih,bP,Ce.cells]
theorem oI(l:List Ch):l.flatMap Ch.cells=bK l:=by
 induction l with
 |nil=>rfl
 |cons a l ih=>simp[List.flatMap_cons,ih,bK,Ch.cells]
theorem mK(l:List MS):l.flatMap MS.cells=aU (l.map MS.raw):=by
 induction l with
 |nil=>rfl
 |cons a l ih=>simp[List.flatMap_cons,ih,aU,MS.cells,MS.raw,bL.cells]
theorem BD.LA(h:BD T w0 w (x.ts++r0))(hS:∀W,x.P W->bJ W)(hv:∀W,x.P W->x.fD W)(hq:∀n (hn:n<x.BI.length),x.BI[n].es1.length<=4096/\x.BI[n].es2.length<=4096)(hl:x.BI.length<=2000000):
  Calls prog 51 #[.slice x.a1 x.BI.length x.c1,.func (.func 52) #[] #[]] w fun en w'=>∃(a:Option Addr) (cap:Nat) (ys:List Ce),en= .returned (.slice a x.BI.length cap)/\ys.map Ce.pl=x.BI.map Ce.pl/\
   BD T w0 w' ((x.knows (fun W=>∀y∈ys,bD W y.es1/\bD W y.es2)).ts++(r0++(aS 118 1 (.slice a x.BI.length cap) x.BI.length (bP ys)::ys.flatMap Ce.ts))):=by
 obtain⟨T',hF,hb⟩:=h.aN;refine(vH Ce.pl Ce.made T' w x.ts x.a1 x.c1 x.BI _ hF (fun W r hL=>?_) (enters_of func52 (by kernel_rfl) rfl) (fun W r n hn hL=>hL.Og hS hv n hn (hq n hn)) hl).mono ?_
 .rw[oz]
  exact iY (hL.aZ 3 rfl) hl
 rintro en w' ⟨a,cap,ys,rfl,hp,hL⟩;refine⟨a,cap,ys,rfl,hp,?_⟩;rw[oz]at hL;have h1:BD T' w w' ((x.ts++[aS 118 1 (.slice a x.BI.length cap) x.BI.length (bP ys)])++ys.flatMap fun y=>y.ts++[aA fun W=>bD W y.es1/\bD W y.es2]):=by rw[show Ce.made=(fun y=>y.ts++[aA fun W=>bD W y.es1/\bD W y.es2]) from rfl]at hL;simpa using hL
 have h2:=BD.perm (qy Ce.ts (fun y=>[aA fun W=>bD W y.es1/\bD W y.es2]) ys) _ h1;rw[<-List.append_assoc]at h2;have h3:=BD.lZ (P:=x.P) (fun y W=>bD W y.es1/\bD W y.es2) 2 ys rfl h2;have h4:BD T' w w' ((x.knows (fun W=>∀y∈ys,bD W y.es1/\bD W y.es2)).ts++(aS 118 1 (.slice a x.BI.length cap) x.BI.length (bP ys)::ys.flatMap Ce.ts)):=by simpa[WS.knows,WS.ts,WS.head]using h3
 have h5:=(hb w' _ h4).aB;rwa[List.append_assoc]at h5
theorem BD.Ii(h:BD T w0 w (x.ts++r0))(hv:∀W,x.P W->x.fD W)(hq:∀n (hn:n<x.cos.length),x.cos[n].es.length<=4096)(hl:x.cos.length<=2000000):
  Calls prog 53 #[.slice x.a2 x.cos.length x.c2,.func (.func 54) #[] #[]] w fun en w'=>∃(a:Option Addr) (cap:Nat) (ys:List Ch),en= .returned (.slice a x.cos.length cap)/\ys.map Ch.pl=x.cos.map Ch.pl/\
   BD T w0 w' ((x.knows (fun W=>∀y∈ys,bD W y.es)).ts++(r0++(aS 122 1 (.slice a x.cos.length cap) x.cos.length (bK ys)::ys.flatMap Ch.ts))):=by
 obtain⟨T',hF,hb⟩:=h.aN;refine(uX Ch.pl Ch.made T' w x.ts x.a2 x.c2 x.cos _ hF (fun W r hL=>?_) (enters_of func54 (by kernel_rfl) rfl) (fun W r n hn hL=>hL.OC hv n hn (hq n hn)) hl).mono ?_
 .rw[oI]
  exact iY (hL.aZ 4 rfl) hl
 rintro en w' ⟨a,cap,ys,rfl,hp,hL⟩;refine⟨a,cap,ys,rfl,hp,?_⟩;rw[oI]at hL;have h1:BD T' w w' ((x.ts++[aS 122 1 (.slice a x.cos.length cap) x.cos.length (bK ys)])++ys.flatMap fun y=>y.ts++[aA fun W=>bD W y.es]):=by rw[show Ch.made=(fun y=>y.ts++[aA fun W=>bD W y.es]) from rfl]at hL;simpa using hL
 have h2:=BD.perm (qy Ch.ts (fun y=>[aA fun W=>bD W y.es]) ys) _ h1;rw[<-List.append_assoc]at h2;have h3:=BD.lZ (P:=x.P) (fun y W=>bD W y.es) 2 ys rfl h2;have h4:BD T' w w' ((x.knows (fun W=>∀y∈ys,bD W y.es)).ts++(aS 122 1 (.slice a x.cos.length cap) x.cos.length (bK ys)::ys.flatMap Ch.ts)):=by simpa[WS.knows,WS.ts,WS.head]using h3
 have h5:=(hb w' _ h4).aB;rwa[List.append_assoc]at h5
theorem BD.JF{ms:List MS}(h:BD T w0 w (x.ts++r0))(hms:x.sys=ms.map MS.raw)(hin:∀W,x.P W->∀m∈ms,m.In W)(hl:x.sys.length<=2000000):
  Calls prog 55 #[.slice x.a3 x.sys.length x.c3,.func (.func 56) #[] #[]] w fun en w'=>∃(a:Option Addr) (cap:Nat) (ys:List MS),en= .returned (.slice a x.sys.length cap)/\ys.map MS.plain=ms.map MS.plain/\
   BD T w0 w' ((x.knows (fun W=>∀y∈ys,y.In W)).ts++(r0++[aS 61 11 (.slice a x.sys.length cap) x.sys.length (aU (ys.map MS.raw))])):=by
 have hlen:x.sys.length=ms.length:=by rw[hms];simp
 have hr:=iY (h.aZ 5 (e:=61) (size:=11) (v:= .slice x.a3 x.sys.length x.c3) (n:=x.sys.length) (xs:=aU x.sys) rfl) hl;rw[hms,<-mK]at hr;simp only[List.length_map]at hr;have hI:=hin w (h.still 2 rfl);rw[hlen];refine(uP MS.plain (fun y=>[aA fun W=>y.In W]) [] w [] x.a3 x.c3 ms _ (BD.nil' w) (fun W r hL=>hr.aW hL.BN) (enters_of func56 (by kernel_rfl) rfl) (fun W r n hn hL=>?_) (by omega)).mono ?_
 .refine(xw _ W ((hI _ (List.getElem_mem hn)).aW hL.BN)).mono ?_
  rintro en W2 ⟨y,rfl,hp,hL2⟩;exact⟨y,rfl,hp,hL.join hL2⟩
 rintro en w' ⟨a,cap,ys,rfl,hp,hL⟩;refine⟨a,cap,ys,rfl,hp,?_⟩;rw[mK,List.nil_append]at hL;have h1:=h.join hL;have h2:BD T w0 w' ((x.ts++(r0++[aS 61 11 (.slice a ms.length cap) ms.length (aU (ys.map MS.raw))]))++ys.flatMap fun y=>[aA fun W=>y.In W]):=by simpa using h1
 have h3:=BD.lZ (P:=x.P) (fun y W=>y.In W) 2 ys rfl h2;simpa[WS.knows,WS.ts,WS.head]using h3
end
structure WS.Good(x:WS)(ms:List MS):Prop where
 sides:∀W,x.P W->bJ W
 vals:∀W,x.P W->x.fD W
 sys:x.sys=ms.map MS.raw
 cont:∀W,x.P W->∀m∈ms,m.In W
 q1:∀n (hn:n<x.BI.length),x.BI[n].es1.length<=4096/\x.BI[n].es2.length<=4096
 q2:∀n (hn:n<x.cos.length),x.cos[n].es.length<=4096
 l1:x.BI.length<=100000
 l2:x.cos.length<=100000
 l3:x.sys.length<=100000
theorem WS.Good.knows{x:WS}{ms:List MS}(h:x.Good ms)(Q:World->Prop):(x.knows Q).Good ms:=
 ⟨fun W hW=>h.sides W hW.1,fun W hW=>h.vals W hW.1,h.sys,fun W hW=>h.cont W hW.1,h.q1,h.q2,h.l1,h.l2,h.l3⟩
def WS.rest(y:WS):List ai:=[y.h0,arena y.ga y.s,aS 118 1 (.slice y.a1 y.BI.length y.c1) y.BI.length (bP y.BI),aS 122 1 (.slice y.a2 y.cos.length y.c2) y.cos.length (bK y.cos),aS 61 11 (.slice y.a3 y.sys.length y.c3) y.sys.length (aU y.sys)]++(y.BI.flatMap Ce.ts++y.cos.flatMap Ch.ts)
def uO(T:List Nat)(w:World)(x:WS)(ms:List MS)(en:Ending)(w':World):Prop:=
 ∃(Q:World->Prop) (y:WS) (ms':List MS),en= .returned (.pointer (some ⟨y.wb,0,none⟩))/\y.P=(x.knows Q).P/\y.Good ms'/\y.s=x.s/\y.BI.map Ce.pl=x.BI.map Ce.pl/\y.cos.map Ch.pl=x.cos.map Ch.pl/\ms'.map MS.plain=ms.map MS.plain/\BD T w w' ((x.knows Q).ts++y.rest)
theorem uy{es ys:List ME}(h:ys.map ME.plain=es.map ME.plain):ys.length=es.length:=by have :=congrArg List.length h;simpa using this
theorem wF{T:List Nat}{w w':World}{x:WS}{ms ms':List MS}(hg:x.Good ms)(Q1 Q2 Q3:World->Prop)(b g:Nat)(a1 a2 a3:Option Addr)(c1 c2 c3:Nat)(ys:List Ce)(zs:List Ch)(h1:ys.map Ce.pl=x.BI.map Ce.pl)(h2:zs.map Ch.pl=x.cos.map Ch.pl)(h3:ms'.map MS.plain=ms.map MS.plain)(hQ1:∀W,Q1 W->∀y∈ys,bD W y.es1/\bD W y.es2)(hQ2:∀W,Q2 W->∀y∈zs,bD W y.es)(hQ3:∀W,Q3 W->∀m∈ms',m.In W)(hL:BD T w w' ((((x.knows Q1).knows Q2).knows Q3).ts++(((([arena g x.s]++(aS 118 1 (.slice a1 x.BI.length c1) x.BI.length (bP ys)::ys.flatMap Ce.ts))++(aS 122 1 (.slice a2 x.cos.length c2) x.cos.length (bK zs)::zs.flatMap Ch.ts))++[aS 61 11 (.slice a3 x.sys.length c3) x.sys.length (aU (ms'.map MS.raw))])++[box b 86 #[g,.slice a1 x.BI.length c1,.slice a2 x.cos.length c2,.slice a3 x.sys.length c3]]))):
  uO T w x ms (.returned (.pointer (some ⟨b,0,none⟩))) w':=by
 have e1:ys.length=x.BI.length:=by have :=congrArg List.length h1;simpa using this
 have e2:zs.length=x.cos.length:=by have :=congrArg List.length h2;simpa using this
 have e3:ms'.length=ms.length:=by have :=congrArg List.length h3;simpa using this
 have e4:x.sys.length=ms.length:=by rw[hg.sys];simp
 have hq1:∀n (hn:n<ys.length),ys[n].es1.length<=4096/\ys[n].es2.length<=4096:=fun n hn=>by
  have hn':n<x.BI.length:=by omega
  have h:=congrArg (fun l=>l[n]?) h1;simp only[List.getElem?_map,List.getElem?_eq_getElem hn,List.getElem?_eq_getElem hn',Option.map_some,Option.some.injEq,Ce.pl,Prod.mk.injEq]at h;have :=hg.q1 n hn';rw[uy h.2.1,uy h.2.2];exact this
 have hq2:∀n (hn:n<zs.length),zs[n].es.length<=4096:=fun n hn=>by
  have hn':n<x.cos.length:=by omega
  have h:=congrArg (fun l=>l[n]?) h2;simp only[List.getElem?_map,List.getElem?_eq_getElem hn,List.getElem?_eq_getElem hn',Option.map_some,Option.some.injEq,Ch.pl,Prod.mk.injEq]at h;rw[uy h.2.2];exact hg.q2 n hn'
 refine⟨fun W=>(Q1 W/\Q2 W)/\Q3 W,⟨b,g,x.s,fun W=>x.P W/\((Q1 W/\Q2 W)/\Q3 W),ys,zs,ms'.map MS.raw,a1,c1,a2,c2,a3,c3⟩,ms',rfl,rfl,⟨fun W hW=>hg.sides W hW.1,fun W hW=>⟨hQ1 W hW.2.1.1,hQ2 W hW.2.1.2⟩,rfl,fun W hW=>hQ3 W hW.2.2,hq1,hq2,by rw[e1];exact hg.l1,by rw[e2];exact hg.l2,by simp only[List.length_map];have :=hg.l3;omega⟩,rfl,h1,h2,h3,?_⟩;have k0:=hL.weaken 2 rfl (Q:=fun W=>x.P W/\((Q1 W/\Q2 W)/\Q3 W)) (fun W hW=>⟨hW.1.1.1,⟨hW.1.1.2,hW.1.2⟩,hW.2⟩);have k1:BD T w w' ((x.knows (fun W=>(Q1 W/\Q2 W)/\Q3 W)).ts++([arena g x.s,aS 118 1 (.slice a1 x.BI.length c1) x.BI.length (bP ys)]++ys.flatMap Ce.ts++[aS 122 1 (.slice a2 x.cos.length c2) x.cos.length (bK zs)]++zs.flatMap Ch.ts++[aS 61 11 (.slice a3 x.sys.length c3) x.sys.length (aU (ms'.map MS.raw))])++[box b 86 #[g,.slice a1 x.BI.length c1,.slice a2 x.cos.length c2,.slice a3 x.sys.length c3]]):=by
  simpa[WS.knows,WS.ts,WS.head]using k0
 have k2:=k1.aB;generalize hX:(x.knows (fun W=>(Q1 W/\Q2 W)/\Q3 W)).ts=X at k2;have er:WS.rest ⟨b,g,x.s,fun W=>x.P W/\((Q1 W/\Q2 W)/\Q3 W),ys,zs,ms'.map MS.raw,a1,c1,a2,c2,a3,c3⟩=[box b 86 #[g,.slice a1 x.BI.length c1,.slice a2 x.cos.length c2,.slice a3 x.sys.length c3],arena g x.s,aS 118 1 (.slice a1 x.BI.length c1) x.BI.length (bP ys),aS 122 1 (.slice a2 x.cos.length c2) x.cos.length (bK zs),aS 61 11 (.slice a3 x.sys.length c3) x.sys.length (aU (ms'.map MS.raw))]++(ys.flatMap Ce.ts++zs.flatMap Ch.ts):=by
  simp[WS.rest,WS.h0,e1,e2,e3,e4]
 have k3:BD T w w' ((X++[box b 86 #[g,.slice a1 x.BI.length c1,.slice a2 x.cos.length c2,.slice a3 x.sys.length c3],arena g x.s,aS 118 1 (.slice a1 x.BI.length c1) x.BI.length (bP ys)])++(ys.flatMap Ce.ts++[aS 122 1 (.slice a2 x.cos.length c2) x.cos.length (bK zs)]++zs.flatMap Ch.ts)++[aS 61 11 (.slice a3 x.sys.length c3) x.sys.length (aU (ms'.map MS.raw))]):=by simpa using k2
 have k4:=k3.aB;have k5:BD T w w' ((X++[box b 86 #[g,.slice a1 x.BI.length c1,.slice a2 x.cos.length c2,.slice a3 x.sys.length c3],arena g x.s,aS 118 1 (.slice a1 x.BI.length c1) x.BI.length (bP ys)])++([aS 61 11 (.slice a3 x.sys.length c3) x.sys.length (aU (ms'.map MS.raw))]++ys.flatMap Ce.ts)++([aS 122 1 (.slice a2 x.cos.length c2) x.cos.length (bK zs)]++zs.flatMap Ch.ts)):=by simpa using k4
 have k6:=k5.aB;have k7:BD T w w' ((X++[box b 86 #[g,.slice a1 x.BI.length c1,.slice a2 x.cos.length c2,.slice a3 x.sys.length c3],arena g x.s,aS 118 1 (.slice a1 x.BI.length c1) x.BI.length (bP ys),aS 122 1 (.slice a2 x.cos.length c2) x.cos.length (bK zs)])++zs.flatMap Ch.ts++([aS 61 11 (.slice a3 x.sys.length c3) x.sys.length (aU (ms'.map MS.raw))]++ys.flatMap Ce.ts)):=by simpa using k6
 have k8:=k7.aB;rw[er];simpa using k8
theorem K3(T:List Nat)(w:World)(x:WS)(ms:List MS)(h:BD T w w x.ts)(hg:x.Good ms):
  Calls prog 11 #[x.wb] w (uO T w x ms):=by
 have BG:Hid (BD T w w (x.ts++[])):=by rw[List.append_nil];exact h
 have HG:=hdq hg;obtain⟨w0',w1',w2',w3'⟩:=BG.o.Cb;have zw:=BG.o.Cb.lt;have HN:=hdq (dG w x.wb x.ga _ _ _ BG.o.Cb);have HA:=hdq (fun W (hW:Touch [] w W)=>(BG.o.touch hW).arCopy 1 (g:=x.ga) (s:=x.s) rfl);go_enter func11,ntmps11
 go_wp2_with fail
 refine HN.o.mono ?_;rintro e w' ⟨rfl,rfl⟩;have BZ:=hdq (Touch.refl [] w).drew;go_wp2_with fail
 refine hrq (S:=fun w'=>w'.cell? ⟨x.wb,0,none⟩=some (.pointer (some ⟨x.ga,0,none⟩))/\w'.cell? ⟨x.wb,1,none⟩=some (.slice x.a1 x.BI.length x.c1)/\w'.cell? ⟨x.wb,2,none⟩=some (.slice x.a2 x.cos.length x.c2)/\w'.cell? ⟨x.wb,3,none⟩=some (.slice x.a3 x.sys.length x.c3)) fun hHeld=>?_;refine tkq 0 5 ?_;refine tkq 1 6 ?_;refine tkq 2 7 ?_;refine tkq 3 8 ?_;refine tkq 4 9 ?_;refine tkq 7 12 ?_;refine tkq 8 13 ?_;refine tkq 9 14 ?_;refine tkq 10 15 ?_;refine tkq 12 17 ?_;refine tkq 13 18 ?_;refine tkq 14 19 ?_;refine tkq 15 20 ?_;refine tkq 17 22 ?_;refine tkq 18 23 ?_;refine tkq 19 24 ?_;refine tkq 20 25 ?_;refine rdq 5 rfl fun K hK=>?_;go_simp;refine(HA.o _ BZ.o).mono ?_;rintro en w1 ⟨g,rfl,hL⟩;have BB:Hid (BD T w w1 (x.ts++[arena g x.s])):=by simpa using hdq hL
 obtain⟨w0',w1',w2',w3'⟩:=BB.o.Cb;have zw:=BB.o.Cb.lt;have hb1:=jw (some ⟨g,0,none⟩);go_simp;refine kpq hK.o fun hHeld=>?_;refine tkq 6 11 ?_;refine rdq 11 rfl fun K hK=>?_;go_simp;refine(BB.o.LA HG.o.sides HG.o.vals HG.o.q1 (by have :=HG.o.l1;omega)).mono ?_;rintro en w2 ⟨a1,c1,ys,rfl,hp,hL⟩;have HL2:=hdq hL;have HP1:=hdq hp;have w0':w2.cell? ⟨x.wb,0,none⟩=some (.pointer (some ⟨x.ga,0,none⟩)):=HL2.o.Cb.1;have w1':w2.cell? ⟨x.wb,1,none⟩=some (.slice x.a1 x.BI.length x.c1):=HL2.o.Cb.2.1;have w2':w2.cell? ⟨x.wb,2,none⟩=some (.slice x.a2 x.cos.length x.c2):=HL2.o.Cb.2.2.1;have w3':w2.cell? ⟨x.wb,3,none⟩=some (.slice x.a3 x.sys.length x.c3):=HL2.o.Cb.2.2.2;have zw:x.wb<w2.heap.size:=HL2.o.Cb.lt;go_simp;refine kpq hK.o fun hHeld=>?_;refine rdq 16 rfl fun K hK=>?_;go_simp;refine(HL2.o.Ii (HG.o.knows _).vals HG.o.q2 (by have :=HG.o.l2;show x.cos.length<=_;omega)).mono ?_;rintro en w3 ⟨a2,c2,zs,rfl,hp,hL⟩;have BF:=hdq hL;have Ht:=hdq hp;have w0':w3.cell? ⟨x.wb,0,none⟩=some (.pointer (some ⟨x.ga,0,none⟩)):=BF.o.Cb.1;have w1':w3.cell? ⟨x.wb,1,none⟩=some (.slice x.a1 x.BI.length x.c1):=BF.o.Cb.2.1;have w2':w3.cell? ⟨x.wb,2,none⟩=some (.slice x.a2 x.cos.length x.c2):=BF.o.Cb.2.2.1;have w3':w3.cell? ⟨x.wb,3,none⟩=some (.slice x.a3 x.sys.length x.c3):=BF.o.Cb.2.2.2;have zw:x.wb<w3.heap.size:=BF.o.Cb.lt;go_simp;refine kpq hK.o fun hHeld=>?_;refine rdq 21 rfl fun K hK=>?_;go_simp;refine(BF.o.JF HG.o.sys ((HG.o.knows _).knows _).cont (by have :=HG.o.l3;show x.sys.length<=_;omega)).mono ?_;rintro en w4 ⟨a3,c3,ms',rfl,hp,hL⟩;have BH:=hdq hL;have HP3:=hdq hp;have w0':w4.cell? ⟨x.wb,0,none⟩=some (.pointer (some ⟨x.ga,0,none⟩)):=BH.o.Cb.1;have w1':w4.cell? ⟨x.wb,1,none⟩=some (.slice x.a1 x.BI.length x.c1):=BH.o.Cb.2.1;have w2':w4.cell? ⟨x.wb,2,none⟩=some (.slice x.a2 x.cos.length x.c2):=BH.o.Cb.2.2.1;have w3':w4.cell? ⟨x.wb,3,none⟩=some (.slice x.a3 x.sys.length x.c3):=BH.o.Cb.2.2.2;have zw:x.wb<w4.heap.size:=BH.o.Cb.lt;have Ca:Hid (BD T w (w4.alloc (.cells #[g,.slice a1 x.BI.length c1,.slice a2 x.cos.length c2,.slice a3 x.sys.length c3] 86)) ((((x.knows (fun W=>∀y∈ys,bD W y.es1/\bD W y.es2)).knows (fun W=>∀y∈zs,bD W y.es)).knows (fun W=>∀y∈ms',y.In W)).ts++(((([arena g x.s]++(aS 118 1 (.slice a1 x.BI.length c1) x.BI.length (bP ys)::ys.flatMap Ce.ts))++(aS 122 1 (.slice a2 x.cos.length c2) x.cos.length (bK zs)::zs.flatMap Ch.ts))++[aS 61 11 (.slice a3 x.sys.length c3) x.sys.length (aU (ms'.map MS.raw))])++[box w4.heap.size 86 #[g,.slice a1 x.BI.length c1,.slice a2 x.cos.length c2,.slice a3 x.sys.length c3]]))):=by
  have h:=BH.o.alloc 86 #[g,.slice a1 x.BI.length c1,.slice a2 x.cos.length c2,.slice a3 x.sys.length c3];rw[List.append_assoc]at h;exact h
 have HE:=hdq (wF HG.o _ _ _ _ _ _ _ _ _ _ _ _ _ HP1.o Ht.o HP3.o (fun W h=>h) (fun W h=>h) (fun W h=>h) Ca.o);have hb1:=jw (some ⟨g,0,none⟩);have hb2:=tO (some ⟨g,0,none⟩) a1 x.BI.length c1 a2 x.cos.length c2 a3 x.sys.length c3;go_simp;refine kpq hK.o fun hHeld=>?_;refine tkq 22 27 ?_;refine opq 23 fun hHeld=>?_;refine tkq 24 2 ?_;refine dnq ?_;go_wp2;go_ret
 exact HE.o
def WS.uY(x:WS)(y:bL)(a:Option Addr)(c:Nat):WS:={x with sys:=x.sys++[y],a3:=a,c3:=c}
def WS.kH(x:WS)(vb v:Value)(n:Nat)(xs:List Value):List ai:=
 [box x.wb 86 #[x.ga,.slice x.a1 x.BI.length x.c1,.slice x.a2 x.cos.length x.c2,vb],arena x.ga x.s,aA x.P,aS 118 1 (.slice x.a1 x.BI.length x.c1) x.BI.length (bP x.BI),aS 122 1 (.slice x.a2 x.cos.length x.c2) x.cos.length (bK x.cos),aS 61 11 v n xs]
def iJ(W:World)(ba:Option Addr)(bases:List MB)(ca:Option Addr)(conds:List Int):Prop:=(aG W ba 7 bases.length (bases.flatMap MB.cells)/\∀b∈bases,b.Mem W)/\aG W ca 1 conds.length (conds.flatMap fq)
def ou(x:WS)(th:Int)(bases:List MB)(conds:List Int):Prop:=0<=th/\Ac x.cos.length conds/\bases.length<=32/\∀b∈bases,eD x.BI.length x.cos.length conds b
def abr(x:WS)(th:Int)(bases:List MB)(conds:List Int)(v er:Int)(x':WS):Prop:=
 (¬ou x th bases conds/\er=2/\v=0/\x'=x)\/(ou x th bases conds/\¬x.s.C.length+1<=x.s.most/\er=6/\v=0/\x'=x)\/
 (ou x th bases conds/\x.s.C.length+1<=x.s.most/\er=0/\v=(x.sys.length:Int)/\∃(s':MS) (a:Option Addr) (c:Nat),s'.plain=(th,bases.map MB.plain,conds,(x.s.C.length:Int),false,false,0,MT.zero.plain,0)/\x'=(WS.knows {x with s:=(x.s.au 1).1} (fun W=>s'.In W)).uY s'.raw a c)
theorem yj:MT.zero.nodes=1:=by simp[MT.zero,MT.nodes,MT.aV]
theorem lJ{v:MT}(h:v.plain.Ok):v.nodes<=256:=by rw[<-MT.cu];exact h.1
theorem nZ{v:MT}(h:v.E8):v.nodes<=256:=by
 have :=List.eq_nil_of_length_eq_zero h.2.2;rw[MT.ni,this];simp[MT.aV]
theorem XA{W:World}{x:WS}{th:Int}{ba:Option Addr}{bases:List MB}{bc:Nat}{ca:Option Addr}{conds:List Int}{cc:Nat}(h:iJ W ba bases ca conds)(hok:ou x th bases conds)(fl:Int):MS.In W ⟨th,ba,bc,bases,ca,cc,conds,fl,false,false,0,MT.zero,0⟩:=by
 refine⟨⟨MT.dQ W,by show MT.zero.nodes<=256;rw[yj];omega⟩,⟨h.1.1,fun b hb=>?_⟩,h.2⟩;have hm:=h.1.2 b hb;have hbk:=hok.2.2.2 b hb;refine⟨⟨hm.1,?_⟩,⟨hm.2.1.1,fun c hc=>⟨(hm.2.1.2 c hc).1,fun t ht=>⟨(hm.2.1.2 c hc).2 t ht,lJ (hbk.2.2.2.1 c hc t ht)⟩⟩⟩,hm.2.2⟩;rcases hbk.1 with ⟨_,_,g⟩|⟨_,_,g⟩|⟨_,_,g⟩|⟨_,_,g⟩|⟨_,_,g⟩
 .exact lJ g
 .exact nZ g
 .exact lJ g
 .exact nZ g
 .exact nZ g
theorem adt{T:List Nat}{w0 w:World}{x:WS}{y:bL}{a:Option Addr}{c:Nat}{s':Ar}{Q:World->Prop}{r:List ai}(h:BD T w0 w ((WS.kH {x with s:=s',P:=Q} (.slice a (x.sys.length+1) c) (.slice a (x.sys.length+1) c) (x.sys.length+1) (aU x.sys++y.cells))++(x.BI.flatMap Ce.ts++x.cos.flatMap Ch.ts)++r)):BD T w0 w ((WS.uY {x with s:=s',P:=Q} y a c).ts++r):=by
 simpa[WS.uY,WS.ts,WS.head,WS.kH,aU,List.flatMap_append]using h
theorem ad3{W:World}{ba:Option Addr}{bases:List MB}{ca:Option Addr}{conds:List Int}(h:iJ W ba bases ca conds)(i:Nat)(hi:i<bases.length):∃b o,ba=some ⟨b,o,none⟩:=by
 obtain⟨b,o,hb,_⟩:=aG.at (f:=MB.cells) (fun _=>rfl) h.1.1 i hi;exact⟨b,o,hb⟩
theorem adX{P:World->Prop}{bb o:Nat}{bases:List MB}{ca:Option Addr}{conds:List Int}(h:∀W,P W->iJ W (some ⟨bb,o,none⟩) bases ca conds)(i:Nat)(hi:i<bases.length)(m:MB)(hm:bases[i]=m):abd [aA P] bb (o+i*7) 7 m.cells:=aas fun W hW j u hu=>by
 obtain⟨b',o',hb,_,hc⟩:=aG.at (f:=MB.cells) (fun _=>rfl) (h W hW).1.1 i hi;injection hb with hb
 injection hb with e1 e2
 subst e1 e2;rw[hm]at hc;rw[hc j (by have :=(List.getElem?_eq_some_iff.1 hu).1;simpa[MB.cells]using this)];exact hu
set_option maxHeartbeats 16000000 in
theorem adM(x:WS)(th:Int)(ba:Option Addr)(bases:List MB)(bc:Nat)(ca:Option Addr)(conds:List Int)(cc:Nat)(b0 b1 b2 b3:Nat)(ha:∀W,x.P W->iJ W ba bases ca conds)(hl3:x.sys.length<=100000):aai prog 86 #[b0,b1,b2,b3] [x.ts,[box b0 25 #[x.wb]],[box b1 3 #[th]],[box b3 48 #[.slice ba bases.length bc]],[box b2 49 #[.slice ca conds.length cc]]] fun e Y=>∃v er x',abr x th bases conds v er x'/\Ends e (.int .i64 v) er (.int .i64 0)/\Y=[x'.ts,[box b0 25 #[x.wb]],[box b1 3 #[th]],[box b3 48 #[.slice ba bases.length bc]],[box b2 49 #[.slice ca conds.length cc]]]:=by
 have hC:=aci x (.slice x.a1 x.BI.length x.c1) (.slice x.a2 x.cos.length x.c2) (.slice x.a3 x.sys.length x.c3);have hInc:RdG prog 87 #[x.wb,.slice ca conds.length cc] [[box x.wb 86 #[x.ga,.slice x.a1 x.BI.length x.c1,.slice x.a2 x.cos.length x.c2,.slice x.a3 x.sys.length x.c3]],[aA x.P]] fun e=>∃y:Bool,(y=true↔Ac x.cos.length conds)/\e= .returned ((fun y=> .bool y) y):=fun T w0 w hl=>(uG w x.wb x.a2 x.cos.length x.c2 ((hl.box 0 rfl).cell 2) ca cc conds (ha w (hl.still 1 rfl)).2).mono fun e w' ⟨y,he,hy,hw⟩=>⟨⟨y,hy,he⟩,hw▸Touch.refl _ _⟩;refine aai.go func86 ntmps86 ?_;refine W.turn (M':=[[box x.wb 86 #[x.ga,.slice x.a1 x.BI.length x.c1,.slice x.a2 x.cos.length x.c2,.slice x.a3 x.sys.length x.c3]],[arena x.ga x.s],[aA x.P],[aS 118 1 (.slice x.a1 x.BI.length x.c1) x.BI.length (bP x.BI),aS 122 1 (.slice x.a2 x.cos.length x.c2) x.cos.length (bK x.cos)],[aS 61 11 (.slice x.a3 x.sys.length x.c3) x.sys.length (aU x.sys)],x.BI.flatMap Ce.ts++x.cos.flatMap Ch.ts,[box b0 25 #[x.wb]],[box b1 3 #[th]],[box b3 48 #[.slice ba bases.length bc]],[box b2 49 #[.slice ca conds.length cc]]]) ?_ (fun T w0 w hl=>by simpa[WS.ts,WS.head]using hl);refine go ?_;refine crr hC fun _ _=>?_;refine go ?_;refine cr (abF fun w=>require_ok w 1) fun _ _=>?_;by_cases hth:0<=th
 case neg=>
  have n1:decide (0<=th)=false:=decide_eq_false hth;refine go ?_;refine pfy (rs:=[]) (ade fun w=>aY w 2) [x.ts,[box b0 25 #[x.wb]],[box b1 3 #[th]],[box b3 48 #[.slice ba bases.length bc]],[box b2 49 #[.slice ca conds.length cc]]] (fun T w0 w hl=>by simpa[WS.ts,WS.head,puts]using hl) ?_;exact⟨0,2,x,.inl ⟨fun h=>hth h.1,rfl,rfl,rfl⟩,.inr ⟨rfl,rfl⟩,rfl⟩
 have n1:decide (0<=th)=true:=decide_eq_true hth;refine go ?_;refine crr hInc fun y hy=>?_;refine go ?_;cases y with
 |false=>
  refine pfy (rs:=[]) (ade fun w=>aY w 2) [x.ts,[box b0 25 #[x.wb]],[box b1 3 #[th]],[box b3 48 #[.slice ba bases.length bc]],[box b2 49 #[.slice ca conds.length cc]]] (fun T w0 w hl=>by simpa[WS.ts,WS.head,puts]using hl) ?_;exact⟨0,2,x,.inl ⟨fun h=>by have :=hy.2 h.2.1;simp at this,rfl,rfl,rfl⟩,.inr ⟨rfl,rfl⟩,rfl⟩
 |true=>
 have hinc:Ac x.cos.length conds:=hy.1 rfl;refine cr (abF fun w=>require_ok w 2) fun _ _=>?_;by_cases hlb:bases.length<=32
 case neg=>
  have n1:decide ((bases.length:Int)<=32)=false:=decide_eq_false (by omega);have n2:decide (bases.length<=32)=false:=decide_eq_false hlb;refine go ?_;refine pfy (rs:=[]) (ade fun w=>aY w 2) [x.ts,[box b0 25 #[x.wb]],[box b1 3 #[th]],[box b3 48 #[.slice ba bases.length bc]],[box b2 49 #[.slice ca conds.length cc]]] (fun T w0 w hl=>by simpa[WS.ts,WS.head,puts]using hl) ?_;exact⟨0,2,x,.inl ⟨fun h=>hlb h.2.2.1,rfl,rfl,rfl⟩,.inr ⟨rfl,rfl⟩,rfl⟩
 have n1:decide ((bases.length:Int)<=32)=true:=decide_eq_true (by omega);have n2:decide (bases.length<=32)=true:=decide_eq_true hlb;refine go ?_;refine cr (abF fun w=>require_ok w 2) fun _ _=>?_;refine go ?_;refine W.loopv [6,26,27,28,29,30,31,32,33,34,35] (fun n v M=>∃i:Nat,v 26= .int .i64 (i:Int)/\i<=bases.length/\n=bases.length-i/\(∀q (hq:q<bases.length),q<i->eD x.BI.length x.cos.length conds bases[q])/\∃r:LG,M=[[box x.wb 86 #[x.ga,.slice x.a1 x.BI.length x.c1,.slice x.a2 x.cos.length x.c2,.slice x.a3 x.sys.length x.c3]],[arena x.ga x.s],[aA x.P],[aS 118 1 (.slice x.a1 x.BI.length x.c1) x.BI.length (bP x.BI),aS 122 1 (.slice x.a2 x.cos.length x.c2) x.cos.length (bK x.cos)],[aS 61 11 (.slice x.a3 x.sys.length x.c3) x.sys.length (aU x.sys)],x.BI.flatMap Ce.ts++x.cos.flatMap Ch.ts,[box b0 25 #[x.wb]],[box b1 3 #[th]],[box b3 48 #[.slice ba bases.length bc]],[box b2 49 #[.slice ca conds.length cc]]]++r) bases.length ⟨0,by kernel_rfl,Nat.zero_le _,rfl,fun q hq h0=>absurd h0 (Nat.not_lt_zero _),[],(List.append_nil _).symm⟩ ?_ (by kernel_rfl);rintro n v M a1 ⟨i,hv,hi,rfl,hA,r,rfl⟩ ha1;refine W.turn (M':=[[box x.wb 86 #[x.ga,.slice x.a1 x.BI.length x.c1,.slice x.a2 x.cos.length x.c2,.slice x.a3 x.sys.length x.c3]],[arena x.ga x.s],[aA x.P],[aS 118 1 (.slice x.a1 x.BI.length x.c1) x.BI.length (bP x.BI),aS 122 1 (.slice x.a2 x.cos.length x.c2) x.cos.length (bK x.cos)],[aS 61 11 (.slice x.a3 x.sys.length x.c3) x.sys.length (aU x.sys)],x.BI.flatMap Ce.ts++x.cos.flatMap Ch.ts,[box b0 25 #[x.wb]],[box b1 3 #[th]],[box b3 48 #[.slice ba bases.length bc]],[box b2 49 #[.slice ca conds.length cc]]]) ?_ (fun T w0 w hl=>adN hl);simp only[adS,List.foldl,sAq,sZq,sSq,hv]at ha1;subst ha1;have hi0:(0:Int)<=(i:Int):=by omega
 by_cases hil:i<bases.length
 .have EM:(i:Int)<(bases.length:Int):=by omega
  have n1:decide ((i:Int)<(bases.length:Int))=true:=decide_eq_true EM;have n2:decide (i<bases.length)=true:=decide_eq_true hil;have hwr:IntKind.i64.wrap ((i:Int)+1)=(i:Int)+1:=IntWalk.i64_in _ (by omega);refine W.know (p:=∃bb o,ba=some ⟨bb,o,none⟩) (fun T w0 w hl=>ad3 (ha w (hl.still 2 rfl)) i hil) ?_;rintro⟨bb,o,hba⟩;subst hba;obtain⟨m,hm⟩:∃m,bases[i]=m:=⟨_,rfl⟩;have hl7:=adX ha i hil m hm;have hVal:RdG prog 88 #[x.wb,m.val,.slice ca conds.length cc] [[box x.wb 86 #[x.ga,.slice x.a1 x.BI.length x.c1,.slice x.a2 x.cos.length x.c2,.slice x.a3 x.sys.length x.c3]],[aA x.P]] fun e=>∃y:Bool,(y=true↔eD x.BI.length x.cos.length conds m)/\e= .returned ((fun y=> .bool y) y):=fun T w0 w hl=>(Nh m w x.wb x.a1 x.BI.length x.c1 x.a2 x.cos.length x.c2 ((hl.box 0 rfl).cell 1) ((hl.box 0 rfl).cell 2) ((ha w (hl.still 1 rfl)).1.2 m (hm▸List.getElem_mem hil)) ca cc conds (ha w (hl.still 1 rfl)).2 hinc.2).mono fun e w' ⟨y,he,hy,hw⟩=>⟨⟨y,hy,he⟩,hw⟩;simp only[MB.val,MB.cells]at hVal hl7;refine go1 fun _=>?_;refine crr hVal fun y hy=>?_;refine go ?_;cases y with
  |false=>
   refine pfy (rs:=[]) (ade fun w=>aY w 2) [x.ts,[box b0 25 #[x.wb]],[box b1 3 #[th]],[box b3 48 #[.slice (some ⟨bb,o,none⟩) bases.length bc]],[box b2 49 #[.slice ca conds.length cc]]] (fun T w0 w hl=>by simpa[WS.ts,WS.head,puts]using acE 10 hl) ?_;exact⟨0,2,x,.inl ⟨fun h=>by have :=hy.2 (hm▸h.2.2.2 _ (List.getElem_mem hil));simp at this,rfl,rfl,rfl⟩,.inr ⟨rfl,rfl⟩,rfl⟩
  |true=>
  refine cr (abF fun w=>require_ok w 2) fun _ _=>?_;refine go ?_;refine⟨bases.length-(i+1),by omega,by kernel_rfl,i+1,by simp,by omega,rfl,fun q hq hqi=>?_,[_],rfl⟩;by_cases hqe:q=i
  .subst hqe
   exact hm▸hy.1 rfl
  .exact hA q hq (by omega)
 have n1:decide ((i:Int)<(bases.length:Int))=false:=decide_eq_false (by omega);have n2:decide (i<bases.length)=false:=decide_eq_false hil;have hok:ou x th bases conds:=⟨hth,hinc,hlb,fun b hb=>by
  obtain⟨q,hq,rfl⟩:=List.getElem_of_mem hb;exact hA q hq (by omega)⟩
 refine go ?_;by_cases hroom:x.s.C.length+1<=x.s.most
 case neg=>
  have hN:aai prog 90 #[x.ga] [[arena x.ga x.s]] (xq (fun _:Unit=>True) (fun _=> .tuple #[(),(6:Int)]) fun _=>[[arena x.ga x.s]]):=fun T w hl=>(BD.OH (l:=[arena x.ga x.s]) hl 0 rfl (v:=0) (er:=6) (s':=x.s) (by unfold Ar.au;rw[if_neg (by omega),if_pos (by omega)])).mono fun e w' ⟨he,hl'⟩=>⟨[[arena x.ga x.s]],rfl,⟨(),trivial,he,rfl⟩,hl'⟩;refine cr hN fun _ _=>?_;refine go ?_;refine pfy (rs:=[]) (ade fun w=>vK w 0 6 (by decide)) [x.ts,[box b0 25 #[x.wb]],[box b1 3 #[th]],[box b3 48 #[.slice ba bases.length bc]],[box b2 49 #[.slice ca conds.length cc]]] (fun T w0 w hl=>by simpa[WS.ts,WS.head,puts]using hl) ?_;exact⟨0,6,x,.inr (.inl ⟨hok,hroom,rfl,rfl,rfl⟩),.inr ⟨rfl,rfl⟩,rfl⟩
 have hN:aai prog 90 #[x.ga] [[arena x.ga x.s]] (xq (fun _:Unit=>True) (fun _=> .tuple #[(x.s.C.length:Int),()]) fun _=>[[arena x.ga (x.s.au 1).1]]):=fun T w hl=>(BD.OH (l:=[arena x.ga x.s]) hl 0 rfl (v:=x.s.C.length) (er:=0) (s':=(x.s.au 1).1) (by unfold Ar.au;rw[if_neg (by omega),if_neg (by omega)])).mono fun e w' ⟨he,hl'⟩=>⟨[[arena x.ga (x.s.au 1).1]],rfl,⟨(),trivial,he,rfl⟩,hl'⟩;have hI:adJ prog 36 61 11 128:=adz mE;have hn1:x.sys.length+1<=4000000:=by omega
 have hwr:IntKind.i64.wrap (x.sys.length:Int)=(x.sys.length:Int):=IntWalk.i64_in _ (by omega);have hbs:∀W,(Instr.build 61 #[(0,.int .i64 th),(1,.slice ba bases.length bc),(2,.slice ca conds.length cc),(3,.int .i64 (x.s.C.length:Int))]).run prog W= .ok (.agg #[th,.slice ba bases.length bc,.slice ca conds.length cc,(x.s.C.length:Int),false,false,(),(),(),True,()]) W:=fun W=>run_build W 61 _ _ (by kernel_rfl);have hCp:aai prog 56 #[.agg #[th,.slice ba bases.length bc,.slice ca conds.length cc,(x.s.C.length:Int),false,false,(),(),(),True,()]] [[aA x.P]] (xq (fun s':MS=>s'.plain=(th,bases.map MB.plain,conds,(x.s.C.length:Int),false,false,0,MT.zero.plain,0)) (fun s'=>s'.val) fun s'=>[[aA fun W=>x.P W/\s'.In W]]):=fun T w hl=>(xw ⟨th,ba,bc,bases,ca,cc,conds,(x.s.C.length:Int),false,false,0,MT.zero,0⟩ w (XA (ha w (hl.still 0 rfl)) hok (x.s.C.length:Int))).mono fun e w' ⟨s',he,hp,hl'⟩=>⟨[[aA fun W=>x.P W/\s'.In W]],rfl,⟨s',hp,he,rfl⟩,(BD.join (l:=[aA x.P]) hl hl').settle 0 rfl fun W f hp hv=>⟨hp,hv.2 W (fun _ _=>rfl)⟩⟩;refine cr hN fun _ _=>?_;refine go ?_;refine cr (abF fun w=>yg w _) fun _ _=>?_;refine go ?_;refine W.rgd ?_;repeat (refine' rgk ?_;rotate_left)
 refine rgz 0 ?_ ?_;refine go ?_;refine cr hCp fun s' hs=>?_;simp only[MS.val];refine go ?_;refine mbq (hal:=by intro w;go_simp;exact⟨rfl,rfl⟩) fun b5=>?_;refine apq (news:=s'.cells) (m:=1) hI rfl (lT s') hn1 (by decide) (hnm:=rfl) fun aa cap=>?_;refine go ?_;refine W.ady [(WS.uY (WS.knows {x with s:=(x.s.au 1).1} (fun W=>s'.In W)) s'.raw aa cap).ts,[box b0 25 #[x.wb]],[box b1 3 #[th]],[box b3 48 #[.slice ba bases.length bc]],[box b2 49 #[.slice ca conds.length cc]]] (fun T w0 w hl=>BD.less (m:=(WS.uY (WS.knows {x with s:=(x.s.au 1).1} (fun W=>s'.In W)) s'.raw aa cap).ts++[box b0 25 #[x.wb],box b1 3 #[th],box b3 48 #[.slice ba bases.length bc],box b2 49 #[.slice ca conds.length cc]]) (r:=[box b5 61 s'.cells.toArray]) (by
  rw[List.append_assoc];exact adt (by simpa[WS.kH,MS.cells,MS.raw,bL.cells]using hl))) ?_
 exact⟨_,0,_,.inr (.inr ⟨hok,hroom,rfl,rfl,s',aa,cap,hs,rfl⟩),.inl ⟨rfl,rfl⟩,rfl⟩
 kernel_rfl
theorem uo(T:List Nat)(w:World)(x:WS)(th:Int)(ba:Option Addr)(bases:List MB)(bc:Nat)(ca:Option Addr)(conds:List Int)(cc:Nat)(h:BD T w w x.ts)(ha:∀W,x.P W->iJ W ba bases ca conds)(hl3:x.sys.length<=100000):
  Calls prog 23 #[x.wb,th,.slice ba bases.length bc,.slice ca conds.length cc] w fun e w'=>∃(v er:Int) (x':WS),e= .returned (.tuple #[.int .i64 v,.int .i64 er])/\abr x th bases conds v er x'/\BD T w w' x'.ts:=by
 have hg:aai prog 23 #[x.wb,th,.slice ba bases.length bc,.slice ca conds.length cc] [x.ts] (xq (fun y:Int×Int×WS=>abr x th bases conds y.1 y.2.1 y.2.2) (fun y=> .tuple #[.int .i64 y.1,.int .i64 y.2.1]) fun y=>[y.2.2.ts]):=by
  have Ep:=mkf;refine aai.go func23 ntmps23 ?_;refine go4 fun b0 b1 b3 b2=>?_;refine cq (acj (enters_of func86 (by kernel_rfl) rfl) (R:=fun v er Y=>∃x',abr x th bases conds v er x'/\Y=[x'.ts,[box b0 25 #[x.wb]],[box b1 3 #[th]],[box b3 48 #[.slice ba bases.length bc]],[box b2 49 #[.slice ca conds.length cc]]]) ((adM x th ba bases bc ca conds cc b0 b1 b2 b3 ha hl3).mono fun e Y ⟨v,er,x',hm,he,hY⟩=>⟨v,er,he,x',hm,hY⟩)) ?_;rintro _ _ ⟨v,er,rfl,x',hm,rfl⟩;refine⟨_,rfl,nq ?_⟩;refine go ?_;refine W.abg ?_;exact⟨(v,er,x'),hm,rfl,rfl⟩
 exact(hg T w (by simpa using h)).mono fun e w' ⟨Y,_,⟨x',hm,he,hY⟩,hl⟩=>⟨_,_,_,he,hm,by rw[hY]at hl;simpa using hl⟩
def One(s s':Ar):Prop:=s'.C.length=s.C.length/\s'.most=s.most/\(s'=s\/s'.L.length=s.L.length+1)
theorem One.refl(s:Ar):One s s:=⟨rfl,rfl,.inl rfl⟩
theorem eO(s:Ar)(op:Nat)(at_:Int)(D9:Nat->Nat×Bool):One s (s.iw op at_ D9).1:=by
 unfold Ar.iw;split
 .exact⟨by simp[Ar.acc],rfl,.inr (by simp[Ar.acc])⟩
 .exact One.refl s
theorem yB(s:Ar){α:Type}(o:Option α)(f:α->Bool×Nat×Ar)(h:∀a,One s (f a).2.2):One s (rB s (o.map f)).2.2:=by
 cases o with
 |none=>exact One.refl s
 |some a=>
  simp only[Option.map_some,rB];split
  .exact h a
  .exact h a
theorem qo(s:Ar){α:Type}(o:Option α)(f:α->Nat×Ar)(h:∀a,One s (f a).2):One s (rE s (o.map f)).2:=by
 cases o with
 |none=>exact One.refl s
 |some a=>exact h a
theorem yG(s:Ar){α:Type}(o:Option α)(f:α->Nat×Nat×Ar)(h:∀a,One s (f a).2.2):One s (rF s (o.map f)).2.2:=by
 cases o with
 |none=>exact One.refl s
 |some a=>
  simp only[Option.map_some,rF];split
  .exact h a
  .exact h a
theorem mW(x:WS)(k:Int):One x.s (x.fQ k).2.2:=yB _ _ _ fun _=>eO _ _ _ _
theorem uD(x:WS)(k:Int):One x.s (x.cK k).2.2:=yB _ _ _ fun _=>eO _ _ _ _
theorem si(x:WS)(k:Int):One x.s (x.eY k).2.2:=yB _ _ _ fun _=>eO _ _ _ _
theorem pV(x:WS)(k:Int):One x.s (x.eF k).2:=qo _ _ _ fun _=>eO _ _ _ _
theorem qQ(x:WS)(k:Int):One x.s (x.bZ k).2:=qo _ _ _ fun _=>eO _ _ _ _
theorem vv(x:WS)(k:Int):One x.s (x.ja k).2:=qo _ _ _ fun _=>eO _ _ _ _
theorem Bh(x:WS)(k:Int):One x.s (x.fK k).2.2:=yG _ _ _ fun _=>eO _ _ _ _
theorem wu(x:WS)(k:Int):One x.s (x.gL k).2.2:=yG _ _ _ fun _=>eO _ _ _ _
theorem LC(x:WS)(k:Int):One x.s (x.iH k).2.2:=yG _ _ _ fun _=>eO _ _ _ _
theorem vI(x:WS)(k:Int):One x.s (x.dX k).2:=qo _ _ _ fun _=>eO _ _ _ _
theorem yA(x:WS)(k:Int):One x.s (x.fG k).2:=qo _ _ _ fun _=>eO _ _ _ _
structure WS.Fair(x:WS)(ms:List MS):Prop where
 good:x.Good ms
 Hr:x.s.C.length=x.BI.length+2*x.cos.length+x.sys.length
 fits:x.s.C.length<=x.s.most
 most:x.s.most<=65536
def qB(a:BO):Prop:=4<=a.what/\a.what<=21/\¬(6<=a.what/\a.what<=8)/\a.what≠13/\a.what≠14/\a.what≠20
structure bq(a:BO)(x:WS)(ms:List MS)(x':WS)(ms':List MS):Prop where
 fair:x'.Fair ms'
 most:x'.s.most=x.s.most
 log:x'.s.L.length=x.s.L.length\/(x'.s.L.length=x.s.L.length+1/\qB a)
 sys:∀k (h:k<ms.length),∃h':k<ms'.length,ms'[k].plain=ms[k].plain\/((k:Int)=a.a/\20<=a.what/\a.what<=22)
 knows:∀W,x'.P W->x.P W
theorem bq.refl{a:BO}{x:WS}{ms:List MS}(h:x.Fair ms):bq a x ms x ms:=⟨h,rfl,.inl rfl,fun k hk=>⟨hk,.inl rfl⟩,fun _ h=>h⟩
theorem bq.ar{a:BO}{x:WS}{ms:List MS}{s:Ar}(h:x.Fair ms)(h1:One x.s s)(ha:qB a):bq a x ms (x.ar s) ms:=by
 obtain⟨g1,g2,g3⟩:=h1;refine⟨⟨⟨h.good.sides,h.good.vals,h.good.sys,h.good.cont,h.good.q1,h.good.q2,h.good.l1,h.good.l2,h.good.l3⟩,?_,?_,?_⟩,g2,?_,fun k hk=>⟨hk,.inl rfl⟩,fun _ h=>h⟩
 .show s.C.length=_;rw[g1];exact h.Hr
 .show s.C.length<=s.most;rw[g1,g2];exact h.fits
 .show s.most<=_;rw[g2];exact h.most
 .show s.L.length=_\/(s.L.length=_/\_)
  rcases g3 with rfl|g3
  .exact .inl rfl
  .exact .inr ⟨g3,ha⟩
theorem bq.knew{a:BO}{x:WS}{ms:List MS}(Q:World->Prop)(h:x.Fair ms):bq a x ms (x.knows Q) ms:=
 ⟨⟨h.good.knows Q,h.Hr,h.fits,h.most⟩,rfl,.inl rfl,fun k hk=>⟨hk,.inl rfl⟩,fun _ h=>h.1⟩
theorem uQ{y:ME}(h:y.plain.Ok):y.v.nodes<=256:=by
 rcases h.2.2.2.2 with h|h
 .have :y.v.plain.nodes=1:=by rw[show y.v.plain=y.plain.v from rfl,h];simp[MT.PT.nodes,MT.PT.aV]
  rw[MT.cu]at this;omega
 .exact lJ h
theorem mD{n kk:Nat}{e:ME}{ys:List ME}{er:Int}(h1:ys.map ME.plain=[e.plain].take kk)(h2:kK n [e.plain] kk er):n+ys.length<=4096/\∀y∈ys,y.v.nodes<=256:=by
 have hl:ys.length=min kk 1:=by have :=congrArg List.length h1;simpa using this
 refine⟨by have :=h2.2.1;omega,fun y hy=>?_⟩;have hk:0<kk:=by
  have :0<ys.length:=List.length_pos_of_mem hy;omega
 have hy2:y.plain∈[e.plain].take kk:=by rw[<-h1];exact List.mem_map_of_mem hy
 have hy3:y.plain=e.plain:=by simpa using List.mem_of_mem_take hy2
 have hok:e.plain.Ok:=h2.1 0 (by simp) hk;exact uQ (by rw[hy3];exact hok)
theorem lW{x:WS}{ms:List MS}(h:x.Fair ms)(n:Nat)(hn:n<x.BI.length)(y:Ce)(P:World->Prop)(hP:∀W,P W->x.P W)(hy:∀W,P W->bD W y.es1/\bD W y.es2)(hq:y.es1.length<=4096/\y.es2.length<=4096):(x.oQ n y P).Fair ms:=by
 refine⟨⟨fun W hW=>h.good.sides W (hP W hW),fun W hW=>⟨fun c hc=>?_,(h.good.vals W (hP W hW)).2⟩,h.good.sys,fun W hW=>h.good.cont W (hP W hW),fun m hm=>?_,h.good.q2,?_,h.good.l2,h.good.l3⟩,?_,h.fits,h.most⟩
 .rcases List.mem_or_eq_of_mem_set hc with hc|rfl
  .exact(h.good.vals W (hP W hW)).1 c hc
  .exact hy W hW
 .have hm':m<x.BI.length:=by simpa[WS.oQ]using hm
  by_cases hmn:n=m
  .subst hmn;simp only[WS.oQ,List.getElem_set_self];exact hq
  .simp only[WS.oQ,List.getElem_set_ne hmn];exact h.good.q1 m hm'
 .simpa[WS.oQ]using h.good.l1
 .show x.s.C.length=(x.BI.set n y).length+2*x.cos.length+x.sys.length
  rw[List.length_set];exact h.Hr
theorem rR{x:WS}{ms:List MS}(h:x.Fair ms)(n:Nat)(hn:n<x.cos.length)(y:Ch)(P:World->Prop)(hP:∀W,P W->x.P W)(hy:∀W,P W->bD W y.es)(hq:y.es.length<=4096):(x.jM n y P).Fair ms:=by
 refine⟨⟨fun W hW=>h.good.sides W (hP W hW),fun W hW=>⟨(h.good.vals W (hP W hW)).1,fun c hc=>?_⟩,h.good.sys,fun W hW=>h.good.cont W (hP W hW),h.good.q1,fun m hm=>?_,h.good.l1,?_,h.good.l3⟩,?_,h.fits,h.most⟩
 .rcases List.mem_or_eq_of_mem_set hc with hc|rfl
  .exact(h.good.vals W (hP W hW)).2 c hc
  .exact hy W hW
 .have hm':m<x.cos.length:=by simpa[WS.jM]using hm
  by_cases hmn:n=m
  .subst hmn;simp only[WS.jM,List.getElem_set_self];exact hq
  .simp only[WS.jM,List.getElem_set_ne hmn];exact h.good.q2 m hm'
 .simpa[WS.jM]using h.good.l2
 .show x.s.C.length=x.BI.length+2*(x.cos.set n y).length+x.sys.length
  rw[List.length_set];exact h.Hr
theorem gU{a:BO}{x x':WS}{ms:List MS}(h:x'.Fair ms)(hs:x'.s=x.s)(hP:∀W,x'.P W->x.P W):bq a x ms x' ms:=⟨h,by rw[hs],.inl (by rw[hs]),fun k hk=>⟨hk,.inl rfl⟩,hP⟩
theorem jU{W:World}{es:List ME}(h:bD W es)(i:Nat)(b:Bool):bD W (if b=true then es.eraseIdx i else es):=by
 split
 .exact fun e he=>h e (List.mem_of_mem_eraseIdx he)
 .exact h
theorem nG(es:List ME)(i n:Nat)(b:Bool)(h:es.length<=n):(if b=true then es.eraseIdx i else es).length<=n:=by
 split
 .exact Nat.le_trans (List.length_eraseIdx_le _ _) h
 .exact h
theorem mG{a:BO}{x x':WS}{ms:List MS}{k s er:Int}{e:ME}(h:x.Fair ms)(hp:lX x k s e er x'):bq a x ms x' ms:=by
 rcases hp with ⟨_,_,rfl⟩|⟨_,_,_,rfl⟩|⟨n,hn,kk,ys,rfl,h1,h2⟩
 .exact bq.refl h
 .exact bq.refl h
 .rcases h2 with ⟨_,h2,rfl⟩|⟨_,h2,rfl⟩
  .obtain⟨f1,f2⟩:=mD h1 h2
   refine gU (lW h n hn _ _ (fun W hW=>hW.1) (fun W hW=>⟨fun y hy=>?_,((h.good.vals W hW.1).1 _ (List.getElem_mem hn)).2⟩) ⟨by simpa using f1,(h.good.q1 n hn).2⟩) rfl (fun W hW=>hW.1);rcases List.mem_append.1 hy with hy|hy
   .exact((h.good.vals W hW.1).1 _ (List.getElem_mem hn)).1 y hy
   .exact⟨hW.2 y hy,f2 y hy⟩
  .obtain⟨f1,f2⟩:=mD h1 h2
   refine gU (lW h n hn _ _ (fun W hW=>hW.1) (fun W hW=>⟨((h.good.vals W hW.1).1 _ (List.getElem_mem hn)).1,fun y hy=>?_⟩) ⟨(h.good.q1 n hn).1,by simpa using f1⟩) rfl (fun W hW=>hW.1);rcases List.mem_append.1 hy with hy|hy
   .exact((h.good.vals W hW.1).1 _ (List.getElem_mem hn)).2 y hy
   .exact⟨hW.2 y hy,f2 y hy⟩
theorem yt{a:BO}{x x':WS}{ms:List MS}{k er:Int}{e:ME}(h:x.Fair ms)(hp:nu x k e er x'):bq a x ms x' ms:=by
 rcases hp with ⟨_,_,rfl⟩|⟨n,hn,kk,ys,rfl,h1,h2,rfl⟩
 .exact bq.refl h
 .obtain⟨f1,f2⟩:=mD h1 h2
  refine gU (rR h n hn _ _ (fun W hW=>hW.1) (fun W hW y hy=>?_) (by simpa using f1)) rfl (fun W hW=>hW.1);rcases List.mem_append.1 hy with hy|hy
  .exact(h.good.vals W hW.1).2 _ (List.getElem_mem hn) y hy
  .exact⟨hW.2 y hy,f2 y hy⟩
theorem xh{a:BO}{x x':WS}{ms:List MS}{k er:Int}{v:aL}(h:x.Fair ms)(hp:lS x k v er x'):bq a x ms x' ms:=by
 rcases hp with ⟨_,_,_,rfl⟩|⟨n,hn,y,b,rfl,_,_,_,rfl⟩
 .exact bq.refl h
 .exact gU (rR h n hn _ _ (fun W hW=>hW) (fun W hW=>jU ((h.good.vals W hW).2 _ (List.getElem_mem hn)) _ _) (nG _ _ _ _ (h.good.q2 n hn))) rfl (fun W hW=>hW)
theorem yK{a:BO}{x x':WS}{ms:List MS}{k s i er:Int}{v:aL}(h:x.Fair ms)(hp:jN x k s i v er x'):bq a x ms x' ms:=by
 rcases hp with ⟨_,_,_,rfl⟩|⟨_,_,_,_,rfl⟩|⟨n,hn,y,b,rfl,_,_,h2⟩
 .exact bq.refl h
 .exact bq.refl h
 .rcases h2 with ⟨_,_,rfl⟩|⟨_,_,rfl⟩
  .exact gU (lW h n hn _ _ (fun W hW=>hW) (fun W hW=>⟨jU ((h.good.vals W hW).1 _ (List.getElem_mem hn)).1 _ _,((h.good.vals W hW).1 _ (List.getElem_mem hn)).2⟩) ⟨nG _ _ _ _ (h.good.q1 n hn).1,(h.good.q1 n hn).2⟩) rfl (fun W hW=>hW)
  .exact gU (lW h n hn _ _ (fun W hW=>hW) (fun W hW=>⟨((h.good.vals W hW).1 _ (List.getElem_mem hn)).1,jU ((h.good.vals W hW).1 _ (List.getElem_mem hn)).2 _ _⟩) ⟨(h.good.q1 n hn).1,nG _ _ _ _ (h.good.q1 n hn).2⟩) rfl (fun W hW=>hW)
theorem qd{a:BO}{x x':WS}{ms:List MS}{k s i er:Int}{v:aL}(h:x.Fair ms)(hp:j4 x k s i v er x'):bq a x ms x' ms:=by
 rcases hp with ⟨_,_,_,rfl⟩|⟨_,_,_,_,rfl⟩|⟨n,hn,y,b,rfl,_,_,h2⟩
 .exact bq.refl h
 .exact bq.refl h
 .rcases h2 with ⟨_,_,rfl⟩|⟨_,_,rfl⟩
  .exact bq.knew _ h
  .exact bq.knew _ h
theorem oL{a:BO}{x x':WS}{ms:List MS}{k br er:Int}{v:dP}(h:x.Fair ms)(hp:jo x ms k br v er x'):bq a x ms x' ms:=by
 rcases hp with ⟨_,_,_,rfl⟩|⟨n,hn,rfl,h2⟩
 .exact bq.refl h
 .rcases h2 with ⟨_,_,_,rfl⟩|⟨j,hj,v',_,_,_,_,rfl⟩
  .exact bq.refl h
  .exact bq.knew _ h
theorem jO(s:Ar)(n:Nat)(h:s.C.length+n<=s.most):(s.au (n:Int)).1={s with C:=s.C++List.replicate n 0}:=by
 unfold Ar.au;rw[if_neg (by omega),if_neg (by omega)];simp
theorem mJ{a:BO}{x x':WS}{ms:List MS}{v er:Int}(h:x.Fair ms)(hp:jG x v er x'):bq a x ms x' ms:=by
 rcases hp with ⟨h1,_,_,c,M,q1,q2,aa,cap,rfl⟩|⟨_,_,_,rfl⟩
 .have hA:=jO x.s 1 h1
  have YM:=h.Hr;have Fj:=h.most;refine⟨⟨⟨h.good.sides,fun W hW=>⟨fun y hy=>?_,(h.good.vals W hW).2⟩,h.good.sys,h.good.cont,fun n hn=>?_,h.good.q2,?_,h.good.l2,h.good.l3⟩,?_,?_,?_⟩,?_,.inl ?_,fun k hk=>⟨hk,.inl rfl⟩,fun _ h=>h⟩
  .rcases List.mem_append.1 hy with hy|hy
   .exact(h.good.vals W hW).1 y hy
   .obtain rfl:=List.mem_singleton.1 hy
    exact⟨fun e he=>(List.not_mem_nil he).elim,fun e he=>(List.not_mem_nil he).elim⟩
  .simp only[WS.sI]at hn|-
   by_cases hnn:n<x.BI.length
   .rw[List.getElem_append_left hnn];exact h.good.q1 n hnn
   .rw[List.getElem_append_right (by omega)];simp
  .simp only[WS.sI,List.length_append,List.length_singleton];omega
  .show(x.s.au ((1:Nat):Int)).1.C.length=(x.BI++[_]).length+2*x.cos.length+x.sys.length
   rw[hA];simp;omega
  .show(x.s.au ((1:Nat):Int)).1.C.length<=(x.s.au ((1:Nat):Int)).1.most
   rw[hA];simpa using h1
  .show(x.s.au ((1:Nat):Int)).1.most<=_
   rw[hA];exact Fj
  .show(x.s.au ((1:Nat):Int)).1.most=_
   rw[hA]
  .show(x.s.au ((1:Nat):Int)).1.L.length=_
   rw[hA]
 .exact bq.refl h
theorem mF{a:BO}{x x':WS}{ms:List MS}{v er:Int}(h:x.Fair ms)(hp:jE x v er x'):bq a x ms x' ms:=by
 rcases hp with ⟨h1,_,_,c,q,aa,cap,rfl⟩|⟨_,_,_,rfl⟩
 .have hA:=jO x.s 2 h1
  have YM:=h.Hr;have Fj:=h.most;refine⟨⟨⟨h.good.sides,fun W hW=>⟨(h.good.vals W hW).1,fun y hy=>?_⟩,h.good.sys,h.good.cont,h.good.q1,fun n hn=>?_,h.good.l1,?_,h.good.l3⟩,?_,?_,?_⟩,?_,.inl ?_,fun k hk=>⟨hk,.inl rfl⟩,fun _ h=>h⟩
  .rcases List.mem_append.1 hy with hy|hy
   .exact(h.good.vals W hW).2 y hy
   .obtain rfl:=List.mem_singleton.1 hy
    exact fun e he=>(List.not_mem_nil he).elim
  .simp only[WS.sV]at hn|-
   by_cases hnn:n<x.cos.length
   .rw[List.getElem_append_left hnn];exact h.good.q2 n hnn
   .rw[List.getElem_append_right (by omega)];simp
  .simp only[WS.sV,List.length_append,List.length_singleton];omega
  .show(x.s.au ((2:Nat):Int)).1.C.length=x.BI.length+2*(x.cos++[_]).length+x.sys.length
   rw[hA];simp;omega
  .show(x.s.au ((2:Nat):Int)).1.C.length<=(x.s.au ((2:Nat):Int)).1.most
   rw[hA];simpa using h1
  .show(x.s.au ((2:Nat):Int)).1.most<=_
   rw[hA];exact Fj
  .show(x.s.au ((2:Nat):Int)).1.most=_
   rw[hA]
  .show(x.s.au ((2:Nat):Int)).1.L.length=_
   rw[hA]
 .exact bq.refl h
theorem kQ{a:BO}{x x':WS}{ms:List MS}{th v er:Int}{bases:List MB}{conds:List Int}(h:x.Fair ms)(hp:abr x th bases conds v er x'):∃ms',bq a x ms x' ms':=by
 rcases hp with ⟨_,_,_,rfl⟩|⟨_,_,_,_,rfl⟩|⟨_,h1,_,_,s',aa,c,hpl,rfl⟩
 .exact⟨ms,bq.refl h⟩
 .exact⟨ms,bq.refl h⟩
 .have hA:=jO x.s 1 h1
  have YM:=h.Hr;have Fj:=h.most;have hsl:x.sys.length=ms.length:=by rw[h.good.sys];simp
  refine⟨ms++[s'],⟨⟨fun W hW=>h.good.sides W hW.1,fun W hW=>h.good.vals W hW.1,?_,fun W hW m hm=>?_,h.good.q1,h.good.q2,h.good.l1,h.good.l2,?_⟩,?_,?_,?_⟩,?_,.inl ?_,fun k hk=>⟨by simp;omega,.inl ?_⟩,fun _ h=>h.1⟩
  .show x.sys++[s'.raw]=(ms++[s']).map MS.raw
   rw[List.map_append,h.good.sys];rfl
  .rcases List.mem_append.1 hm with hm|hm
   .exact h.good.cont W hW.1 m hm
   .obtain rfl:=List.mem_singleton.1 hm
    exact hW.2
  .show(x.sys++[s'.raw]).length<=_
   simp only[List.length_append,List.length_singleton];omega
  .show(x.s.au ((1:Nat):Int)).1.C.length=x.BI.length+2*x.cos.length+(x.sys++[s'.raw]).length
   rw[hA];simp;omega
  .show(x.s.au ((1:Nat):Int)).1.C.length<=(x.s.au ((1:Nat):Int)).1.most
   rw[hA];simpa using h1
  .show(x.s.au ((1:Nat):Int)).1.most<=_
   rw[hA];exact Fj
  .show(x.s.au ((1:Nat):Int)).1.most=_
   rw[hA]
  .show(x.s.au ((1:Nat):Int)).1.L.length=_
   rw[hA]
  .rw[List.getElem_append_left hk]
theorem NY{x:WS}{ms:List MS}(hs:x.sys=ms.map MS.raw)(n:Nat)(m:MS):x.sys.set n m.raw=(ms.set n m).map MS.raw:=by rw[hs,List.map_set]
theorem abw{a:BO}{x y:WS}{ms:List MS}(n:Nat)(hn:n<ms.length)(m:MS)(h:x.Fair ms)(hy:y.Fair ms)(hs:bq a x ms y ms)(hna:(n:Int)=a.a/\20<=a.what/\a.what<=22)(hin:∀W,y.P W->m.In W):bq a x ms (y.eP n m.raw) (ms.set n m):=by
 refine⟨⟨⟨hy.good.sides,hy.good.vals,NY hy.good.sys n m,fun W hW u hu=>?_,hy.good.q1,hy.good.q2,hy.good.l1,hy.good.l2,?_⟩,?_,hy.fits,hy.most⟩,hs.most,hs.log,fun k hk=>⟨by simpa using hk,?_⟩,hs.knows⟩
 .rcases List.mem_or_eq_of_mem_set hu with hu|rfl
  .exact hy.good.cont W hW u hu
  .exact hin W hW
 .show(y.sys.set n m.raw).length<=_
  rw[List.length_set];exact hy.good.l3
 .show y.s.C.length=y.BI.length+2*y.cos.length+(y.sys.set n m.raw).length
  rw[List.length_set];exact hy.Hr
 .by_cases hkn:n=k
  .subst hkn;exact .inr hna
  .rw[List.getElem_set_ne hkn];exact .inl rfl
theorem yx{x:WS}{ms:List MS}(hs:x.sys=ms.map MS.raw)(n:Nat)(hn:n<x.sys.length):∃hm:n<ms.length,x.sys[n]=ms[n].raw:=by
 have hm:n<ms.length:=by rw[hs]at hn;simpa using hn
 refine⟨hm,?_⟩;have :x.sys[n]? =(ms.map MS.raw)[n]? :=by rw[hs]
 rw[List.getElem?_eq_getElem hn,List.getElem?_map,List.getElem?_eq_getElem hm]at this;simpa using this
theorem mI{a:BO}{x x':WS}{ms:List MS}{v:Bool}{er:Int}(h:x.Fair ms)(ha:a.what=21)(hp:jk x a.a v er x'):∃ms',bq a x ms x' ms':=by
 have hmay:qB a:=⟨by omega,by omega,by omega,by omega,by omega,by omega⟩;rcases hp with ⟨_,_,_,rfl⟩|⟨n,hn,r,hna,rfl,h2⟩
 .exact⟨ms,bq.refl h⟩
 .have ho:One x.s (fT x.s x.sys[n].flag).2.2:=eO _ _ _ _
  rcases h2 with ⟨_,_,_,rfl⟩|⟨_,_,_,rfl⟩
  .exact⟨ms,bq.ar h ho hmay⟩
  .have hs:=bq.ar h ho hmay
   obtain⟨hm,e1⟩:=yx h.good.sys n hn;generalize (((fT x.s x.sys[n].flag).1:Int) != 2)=b;refine⟨ms.set n {ms[n]with parked:=b},?_⟩;have e2:({x.sys[n]with parked:=b}:bL)=MS.raw {ms[n]with parked:=b}:=by rw[e1];rfl
   rw[e2];exact abw n hm {ms[n]with parked:=b} h hs.fair hs ⟨hna.symm,by omega,by omega⟩ (fun W hW=>by have hc:=h.good.cont W hW _ (List.getElem_mem hm);exact hc)
theorem jS{a:BO}{x x':WS}{ms:List MS}{br pt er:Int}{v:MT}(h:x.Fair ms)(ha:a.what=20)(hp:gN x a.a br v pt er x'):∃ms',bq a x ms x' ms':=by
 rcases hp with ⟨_,_,rfl⟩|⟨n,hn,hna,h2⟩
 .exact⟨ms,bq.refl h⟩
 .rcases h2 with ⟨_,_,rfl⟩|⟨⟨_,hok,_⟩,⟨_,_,rfl⟩|⟨_,_,v',hv,rfl⟩⟩
  .exact⟨ms,bq.refl h⟩
  .exact⟨ms,bq.refl h⟩
  .obtain⟨hm,e1⟩:=yx h.good.sys n hn
   have hs:bq a x ms (x.knows (fun W=>∀t∈[v'],t.In W)) ms:=bq.knew _ h;refine⟨ms.set n {ms[n]with done:=true,branch:=br,v:=v',partner:=pt},?_⟩;have e2:x.sys[n].qN br v' pt=MS.raw {ms[n]with done:=true,branch:=br,v:=v',partner:=pt}:=by rw[e1];rfl
   rw[e2];refine abw n hm _ h hs.fair hs ⟨hna.symm,by omega,by omega⟩ (fun W hW=>?_);have hc:=h.good.cont W hW.1 _ (List.getElem_mem hm);exact⟨⟨hW.2 v' (List.mem_singleton.2 rfl),lJ (by rw[hv];exact hok)⟩,hc.2⟩
theorem yO{a:BO}{x y:WS}{ms ms':List MS}{Q:World->Prop}(h:x.Fair ms)(hP:y.P=(x.knows Q).P)(hg:y.Good ms')(hs:y.s=x.s)(h1:y.BI.map Ce.pl=x.BI.map Ce.pl)(h2:y.cos.map Ch.pl=x.cos.map Ch.pl)(h3:ms'.map MS.plain=ms.map MS.plain):bq a x ms y ms':=by
 have e1:y.BI.length=x.BI.length:=by have :=congrArg List.length h1;simpa using this
 have e2:y.cos.length=x.cos.length:=by have :=congrArg List.length h2;simpa using this
 have e3:ms'.length=ms.length:=by have :=congrArg List.length h3;simpa using this
 have e4:y.sys.length=x.sys.length:=by rw[hg.sys,h.good.sys];simp[e3]
 refine⟨⟨hg,by rw[hs,e1,e2,e4];exact h.Hr,by rw[hs];exact h.fits,by rw[hs];exact h.most⟩,by rw[hs],.inl (by rw[hs]),fun k hk=>⟨by omega,.inl ?_⟩,fun W hW=>by rw[hP]at hW;exact hW.1⟩;have :=congrArg (fun l=>l[k]?) h3;simp only[List.getElem?_map]at this;rw[List.getElem?_eq_getElem hk,List.getElem?_eq_getElem (by omega:k<ms'.length)]at this;simpa using this
theorem zi{x x':WS}{k s er:Int}{e:ME}(hp:lX x k s e er x'):x'.wb=x.wb:=by
 rcases hp with ⟨_,_,rfl⟩|⟨_,_,_,rfl⟩|⟨n,hn,kk,ys,rfl,h1,⟨_,_,rfl⟩|⟨_,_,rfl⟩⟩<;>rfl
theorem Nw{x x':WS}{k er:Int}{e:ME}(hp:nu x k e er x'):x'.wb=x.wb:=by
 rcases hp with ⟨_,_,rfl⟩|⟨n,hn,kk,ys,rfl,h1,h2,rfl⟩<;>rfl
theorem MI{x x':WS}{k er:Int}{v:aL}(hp:lS x k v er x'):x'.wb=x.wb:=by
 rcases hp with ⟨_,_,_,rfl⟩|⟨n,hn,y,b,rfl,_,_,_,rfl⟩<;>rfl
theorem MJ{x x':WS}{k s i er:Int}{v:aL}(hp:jN x k s i v er x'):x'.wb=x.wb:=by
 rcases hp with ⟨_,_,_,rfl⟩|⟨_,_,_,_,rfl⟩|⟨n,hn,y,b,rfl,_,_,⟨_,_,rfl⟩|⟨_,_,rfl⟩⟩<;>rfl
theorem zl{x x':WS}{k s i er:Int}{v:aL}(hp:j4 x k s i v er x'):x'.wb=x.wb:=by
 rcases hp with ⟨_,_,_,rfl⟩|⟨_,_,_,_,rfl⟩|⟨n,hn,y,b,rfl,_,_,⟨_,_,rfl⟩|⟨_,_,rfl⟩⟩<;>rfl
theorem vk{x x':WS}{ms:List MS}{k br er:Int}{v:dP}(hp:jo x ms k br v er x'):x'.wb=x.wb:=by
 rcases hp with ⟨_,_,_,rfl⟩|⟨n,hn,rfl,⟨_,_,_,rfl⟩|⟨j,hj,v',_,_,_,_,rfl⟩⟩<;>rfl
theorem zH{x x':WS}{v er:Int}(hp:jG x v er x'):x'.wb=x.wb:=by
 rcases hp with ⟨_,_,_,_,_,_,_,_,_,rfl⟩|⟨_,_,_,rfl⟩<;>rfl
theorem yQ{x x':WS}{v er:Int}(hp:jE x v er x'):x'.wb=x.wb:=by
 rcases hp with ⟨_,_,_,_,_,_,_,rfl⟩|⟨_,_,_,rfl⟩<;>rfl
theorem vC{x x':WS}{th v er:Int}{bases:List MB}{conds:List Int}(hp:abr x th bases conds v er x'):x'.wb=x.wb:=by
 rcases hp with ⟨_,_,_,rfl⟩|⟨_,_,_,_,rfl⟩|⟨_,_,_,_,_,_,_,_,rfl⟩<;>rfl
theorem Mf{x x':WS}{k er:Int}(hp:wG x k er x'):x'.wb=x.wb:=by
 rcases hp with ⟨_,_,rfl⟩|⟨n,hn,_,_,rfl⟩<;>rfl
theorem zG{x x':WS}{k er:Int}{v:Bool}(hp:jk x k v er x'):x'.wb=x.wb:=by
 rcases hp with ⟨_,_,_,rfl⟩|⟨n,hn,r,_,_,⟨_,_,_,rfl⟩|⟨_,_,_,rfl⟩⟩<;>rfl
theorem rM{x x':WS}{k br pt er:Int}{v:MT}(hp:gN x k br v pt er x'):x'.wb=x.wb:=by
 rcases hp with ⟨_,_,rfl⟩|⟨n,hn,_,⟨_,_,rfl⟩|⟨_,⟨_,_,rfl⟩|⟨_,_,_,_,rfl⟩⟩⟩<;>rfl
def WS.fJ(x:WS)(P:World->Prop):WS:={x with P:=P}
theorem WS.Good.fJ{x:WS}{ms:List MS}(h:x.Good ms)(P:World->Prop)(hP:∀W,P W->x.P W):(x.fJ P).Good ms:=
 ⟨fun W hW=>h.sides W (hP W hW),fun W hW=>h.vals W (hP W hW),h.sys,fun W hW=>h.cont W (hP W hW),h.q1,h.q2,h.l1,h.l2,h.l3⟩
theorem WS.Fair.fJ{x:WS}{ms:List MS}(h:x.Fair ms)(P:World->Prop)(hP:∀W,P W->x.P W):(x.fJ P).Fair ms:=⟨h.good.fJ P hP,h.Hr,h.fits,h.most⟩
theorem BD.OQ{T:List Nat}{w0 w:World}{x y:WS}{r:List ai}(h:BD T w0 w (x.ts++y.rest++r))(hP:y.P=x.P):BD T w0 w (y.ts++x.rest++r):=by
 have e:∀z:WS,z.ts=[z.h0,arena z.ga z.s,aA z.P]++([aS 118 1 (.slice z.a1 z.BI.length z.c1) z.BI.length (bP z.BI),aS 122 1 (.slice z.a2 z.cos.length z.c2) z.cos.length (bK z.cos),aS 61 11 (.slice z.a3 z.sys.length z.c3) z.sys.length (aU z.sys)]++(z.BI.flatMap Ce.ts++z.cos.flatMap Ch.ts)):=fun z=>rfl;have er:∀z:WS,z.rest=[z.h0,arena z.ga z.s]++([aS 118 1 (.slice z.a1 z.BI.length z.c1) z.BI.length (bP z.BI),aS 122 1 (.slice z.a2 z.cos.length z.c2) z.cos.length (bK z.cos),aS 61 11 (.slice z.a3 z.sys.length z.c3) z.sys.length (aU z.sys)]++(z.BI.flatMap Ce.ts++z.cos.flatMap Ch.ts)):=fun z=>rfl;have e3:∀z:WS,(z.ts).Perm (aA z.P::z.rest):=fun z=>by
  rw[e,er];simp only[cAq,nAq];exact List.Perm.trans (List.Perm.cons _ (List.Perm.swap _ _ _)) (List.Perm.swap _ _ _)
 have hp:(x.ts++y.rest++r).Perm (y.ts++x.rest++r):=by
  refine List.Perm.append_right r ?_;refine((e3 x).append_right _).trans ?_;refine List.Perm.trans ?_ ((e3 y).append_right _).symm;rw[hP];simp only[cAq];exact List.perm_append_comm.cons _
 exact BD.perm hp [] (by simpa using h)
end Go.Proofs.YtddnnapoaonmjaaGreatDoor
